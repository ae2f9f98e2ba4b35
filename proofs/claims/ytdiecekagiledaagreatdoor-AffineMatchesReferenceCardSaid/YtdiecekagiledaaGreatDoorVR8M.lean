/- Package affine and the reference implementation hand back the same, whatever. -/
import Derived.Test.YtdiecekagiledaaGreatDoorVARaw
import Derived.Test.YtdiecekagiledaaGreatDoorVR8V
set_option linter.unusedSimpArgs false
set_option linter.unusedVariables false
set_option maxRecDepth 100000
set_option maxHeartbeats 16000000
namespace Go.Proofs.YtdiecekagiledaaGreatDoor
open Go Go.RowKit Go.Lib Go.Shelf Go.Proofs.Tryz
attribute [local go_sem] yg
theorem kbv{x:RFm}{v1 v2:Bool}(hv:(v1&&v2)=false)(pf:En)(cq:Nat)(pv:En)(m cv:Nat)(w:World)(MA1:∀ W,Aa w W->Calls prog 18 #[RV x pf cq] W (qa v1 W))(MA2:∀ W,Aa w W->Calls prog 61 #[.slice pv m cv] W (qa v2 W)):Calls prog 22 #[RV x pf cq,.slice pv m cv] w (IvX kW 80 w):=by
 have hB:=Ab w;unfold IvX;unfold RV qa at *;go_enter func22,ntmps22;go_wp2_with fail;have d0_o:w.heap.size<=w.heap.size+1:=by have:=hB.size;omega
 have sB:=hB.size;refine za (fun X=>Aa w X/\Row X w.heap.size (.cells #[.string x.c1,.string x.c2,.slice pf x.l.length cq,.string x.r1,.string x.r2] 26)/\Row X (w.heap.size+1) oI0) ⟨BW,RW8,RW8⟩ ?_;clear hB sB;rintro V1⟨hB,rf,ro⟩;have sf:=RF5 rf;have so:=kn ro;refine(MA1 _ hB).mono ?_;rintro e W2⟨rfl,h1⟩;have stp:=St2 hB h1 rf ro;clear hB h1 rf sf ro so;obtain⟨hB,rf,ro⟩:=stp;have sf:=RF5 rf;have so:=kn ro;go_wp2_with fail;refine(MA2 _ hB).mono ?_;rintro e W3⟨rfl,h1⟩;have stp:=St2 hB h1 rf ro;clear hB h1 rf sf ro so;obtain⟨hB,rf,ro⟩:=stp;have sf:=RF5 rf;have so:=kn ro;go_upto_region 3 with fail
 cases v1 with
 | false =>
  go_wp2_with fail;have sB:=hB.size;refine vc (kq1 hB ro) ⟨BW,RW8⟩ ?_;unfold kq1;clear rf sf ro so hB sB;rintro V4⟨hB,ro⟩;have so:=kn ro;refine bodyPost_ret (v:=.tuple #[.agg #[.string ⟨#[]⟩,.string ⟨#[]⟩,.string ⟨#[]⟩,.string ⟨#[]⟩],.int .i64 80]) ?res rfl ⟨rfl,hB⟩
  case res=>simp[results,results22,go_sem,so]
 | true =>
  obtain rfl:v2=false:=by simpa using hv
  go_wp2_with fail;have sB:=hB.size;refine vc (kq1 hB ro) ⟨BW,RW8⟩ ?_;unfold kq1;clear rf sf ro so hB sB;rintro V4⟨hB,ro⟩;have so:=kn ro;refine bodyPost_ret (v:=.tuple #[.agg #[.string ⟨#[]⟩,.string ⟨#[]⟩,.string ⟨#[]⟩,.string ⟨#[]⟩],.int .i64 80]) ?res rfl ⟨rfl,hB⟩
  case res=>simp[results,results22,go_sem,so]
theorem jbq{f:Frm}{vs:List Trm}{Y:RIv}{z:Int}(dg:FDig 200 f)(ho:f.Ok)(hv:ValsOk vs)(h:((((jap (zR vs f.c f.t f.t.length) (yU ⟨0,ke vs f.t,f.r⟩)).isNone||(yv (zR vs f.c f.t f.t.length) (yU ⟨0,ke vs f.t,f.r⟩)).isNone)=true/\Y=kW/\z=80)\/(((jap (zR vs f.c f.t f.t.length) (yU ⟨0,ke vs f.t,f.r⟩)).isNone||(yv (zR vs f.c f.t f.t.length) (yU ⟨0,ke vs f.t,f.r⟩)).isNone)=false/\Y=⟨o1 (jap (zR vs f.c f.t f.t.length) (yU ⟨0,ke vs f.t,f.r⟩)),o2 (jap (zR vs f.c f.t f.t.length) (yU ⟨0,ke vs f.t,f.r⟩)),o1 (yv (zR vs f.c f.t f.t.length) (yU ⟨0,ke vs f.t,f.r⟩)),o2 (yv (zR vs f.c f.t f.t.length) (yU ⟨0,ke vs f.t,f.r⟩))⟩/\z=0))) :
  (AtF f vs/\Y=(atI f vs).riv/\z=0)\/(¬ AtF f vs/\Y=kW/\z=80):=by
 have dO:FDig 200 (⟨0,ke vs f.t,f.r⟩:Frm):=⟨kaZ,fun p hp=>dg.t p (List.mem_filter.1 hp).1,dg.r⟩
 by_cases hA:AtF f vs
 ·have hm:=zam (vs:=vs) (l:=f.t) (c:=f.c) f.t.length fun j hj v hl=>⟨hA.mul j hj v hl,hA.add j hj v hl⟩
  rw[hm,kaH hA.rad,qaI hA.lo,zA hA.hi]at h;rcases h with⟨h,_⟩|⟨_,h⟩
  ·simp at h
  ·exact .inl ⟨hA,h⟩
 ·refine .inr ⟨hA,?_⟩;rcases h with⟨_,h⟩|⟨h,_⟩
  ·exact h
  ·exfalso;apply hA;rw[BH]at h;obtain⟨h1,h2⟩:=h
   cases hm:zR vs f.c f.t f.t.length with
   | none=>rw[hm]at h2;simp[yv]at h2
   | some q =>
    cases hr:yU (⟨0,ke vs f.t,f.r⟩:Frm)with
    | none=>rw[hr]at h2;rw[jab]at h2;simp at h2
    | some r =>
     have hR:RadF (⟨0,ke vs f.t,f.r⟩:Frm):=by
      by_cases k:RadF (⟨0,ke vs f.t,f.r⟩:Frm)
      ·exact k
      ·rw[ka8 dO k]at hr;cases hr
     have hi:=yaU (vs:=vs) (l:=f.t) (c:=f.c) f.t.length (by rw[hm];rfl);have hms:=zam (vs:=vs) (l:=f.t) (c:=f.c) f.t.length hi;rw[hms,kaH hR]at h1 h2;refine⟨fun k hk v hl=>(hi k hk v hl).1,fun k hk v hl=>(hi k hk v hl).2,hR,?_,?_⟩
     ·by_cases k:SF (yj vs f.c f.t f.t.length) (rad ⟨0,ke vs f.t,f.r⟩)
      ·exact k
      ·rw[kbx k]at h1;cases h1
     ·by_cases k:AF (yj vs f.c f.t f.t.length) (rad ⟨0,ke vs f.t,f.r⟩)
      ·exact k
      ·rw[qT k]at h2;cases h2
def FK(x:RFm):Option Frm->Prop
 | some f=>x=f.rfm/\f.Ok/\FDig 200 f
 | none=>∀ W p c,Env W->UAt 34 W p x.l->Calls prog 17 #[RV x p c] W (qa false W)/\Calls prog 18 #[RV x p c] W (qa false W)
theorem FK.valid{x:RFm}{o:Option Frm}(h:FK x o)(W:World)(p:En)(c:Nat)(he:Env W)(hp:UAt 34 W p x.l):Calls prog 17 #[RV x p c] W (qa o.isSome W)/\Calls prog 18 #[RV x p c] W (qa o.isSome W):=by
 cases o with
 | none=>exact h W p c he hp
 | some f =>
  obtain⟨rfl,ho,hd⟩:=h;rw[qY];exact⟨jY ho hd p c W hp he,jaH ho hd p c W hp⟩
theorem qaB{p q:Rat}(dp:QDig 200 p)(dq:QDig 200 q){x y:RFm}{ox oy:Option Frm}(hx:FK x ox)(hy:FK y oy):∃ X z,X.l.length<=1000000/\∀ a0 a1 pa ca pb cb W,EnvA a0 a1 W->UAt 34 W pa x.l->UAt 34 W pb y.l ->
  Calls prog 32 #[RV x pa ca,RV y pb cb,Q p,Q q] W (FX X z W)/\Calls prog 34 #[RV x pa ca,RV y pb cb,Q p,Q q] W (FX X z W):=by
 have no:(ox.isSome&&oy.isSome)=false->∃ X z,X.l.length<=1000000/\∀ a0 a1 pa ca pb cb W,EnvA a0 a1 W->UAt 34 W pa x.l->UAt 34 W pb y.l ->
  Calls prog 32 #[RV x pa ca,RV y pb cb,Q p,Q q] W (FX X z W)/\Calls prog 34 #[RV x pa ca,RV y pb cb,Q p,Q q] W (FX X z W):=fun hv=>⟨kau,80,Bt _,fun a0 a1 pa ca pb cb W he h1 h2 =>
   ⟨jbd hv pa ca pb cb W he (fun X hB=>(hx.valid X pa ca (he.env.below hB) (Ai h1 hB)).1) (fun X hB=>(hy.valid X pb cb (he.env.below hB) (Ai h2 hB)).1),
    vaW hv pa ca pb cb W (fun X hB=>(hx.valid X pa ca (he.env.below hB) (Ai h1 hB)).2) (fun X hB=>(hy.valid X pb cb (he.env.below hB) (Ai h2 hB)).2)⟩⟩
 cases ox with
 | none=>exact no rfl
 | some f =>
  cases oy with
  | none=>exact no rfl
  | some g =>
   clear no;obtain⟨rfl,of,df⟩:=hx;obtain⟨rfl,og,dg⟩:=hy;by_cases hc:CombO p q f g
   ·exact⟨_,_,(by show(kN _).length<=_;rw[kf];exact Bb hc.lin.few dd),fun a0 a1 pa ca pb cb W he h1 h2=>⟨(zaj (a0:=a0) (a1:=a1) dp dq of og df dg pa ca pb cb W h1 h2 he.env fun _=>he).1 hc,(kaN dp dq of og df dg pa ca pb cb W h1 h2).1 hc⟩⟩
   ·exact⟨_,_,Bt _,fun a0 a1 pa ca pb cb W he h1 h2=>⟨(zaj (a0:=a0) (a1:=a1) dp dq of og df dg pa ca pb cb W h1 h2 he.env fun _=>he).2 hc,(kaN dp dq of og df dg pa ca pb cb W h1 h2).2 hc⟩⟩
theorem zce{x y:RFm}{ox oy:Option Frm}(hx:FK x ox)(hy:FK y oy):∃ X z,X.l.length<=1000000/\∀ a0 a1 pa ca pb cb W,EnvA a0 a1 W->UAt 34 W pa x.l->UAt 34 W pb y.l ->
  Calls prog 8 #[RV x pa ca,RV y pb cb] W (FX X z W)/\Calls prog 9 #[RV x pa ca,RV y pb cb] W (FX X z W):=by
 obtain⟨X,z,hl,h⟩:=qaB jcJ jcJ hx hy;exact⟨X,z,hl,fun a0 a1 pa ca pb cb W he h1 h2=>⟨vc0 pa ca pb cb W he.env fun V hB=>(h a0 a1 pa ca pb cb V (he.below hB) (Ai h1 hB) (Ai h2 hB)).1,vcV pa ca pb cb W fun V hB=>(h a0 a1 pa ca pb cb V (he.below hB) (Ai h1 hB) (Ai h2 hB)).2⟩⟩
theorem qce{x y:RFm}{ox oy:Option Frm}(hx:FK x ox)(hy:FK y oy):∃ X z,X.l.length<=1000000/\∀ a0 a1 pa ca pb cb W,EnvA a0 a1 W->UAt 34 W pa x.l->UAt 34 W pb y.l ->
  Calls prog 10 #[RV x pa ca,RV y pb cb] W (FX X z W)/\Calls prog 11 #[RV x pa ca,RV y pb cb] W (FX X z W):=by
 obtain⟨X,z,hl,h⟩:=qaB jcJ vc3 hx hy;exact⟨X,z,hl,fun a0 a1 pa ca pb cb W he h1 h2=>⟨vcN pa ca pb cb W he.env fun V hB=>(h a0 a1 pa ca pb cb V (he.below hB) (Ai h1 hB) (Ai h2 hB)).1,kcW pa ca pb cb W fun V hB=>(h a0 a1 pa ca pb cb V (he.below hB) (Ai h1 hB) (Ai h2 hB)).2⟩⟩
def RB(a b:ByteArray):Prop:=(∃ q,RatS 200 a b q)\/NotRat a b
theorem kbA{x:RFm}{ox:Option Frm}(hx:FK x ox){a b:ByteArray}(hr:RB a b):∃ X z,X.l.length<=1000000/\∀ a0 a1 pa ca W,EnvA a0 a1 W->UAt 34 W pa x.l ->
  Calls prog 12 #[RV x pa ca,.agg #[.string a,.string b]] W (FX X z W)/\Calls prog 13 #[RV x pa ca,.agg #[.string a,.string b]] W (FX X z W):=by
 rcases hr with⟨q,rfl,rfl,hq⟩|hn
 ·have hk:FK (ki 0).rfm (some (ki 0)):=⟨rfl,zac 0,⟨kaZ,by simp[ki],kaZ⟩⟩
  obtain⟨X,z,hl,h⟩:=qaB hq kaZ hx hk;exact⟨X,z,hl,fun a0 a1 pa ca W he h1=>⟨kbP hq pa ca W he.env fun V hB=>(h a0 a1 pa ca none 0 V (he.below hB) (Ai h1 hB) (UAt.nil _ _)).1,yco hq pa ca W fun V hB=>(h a0 a1 pa ca none 0 V (he.below hB) (Ai h1 hB) (UAt.nil _ _)).2⟩⟩
 ·exact⟨kau,80,Bt _,fun a0 a1 pa ca W he h1=>⟨vbz pa ca W fun V hB=>hn.prog V (he.env.below hB),jbm pa ca W fun V hB=>hn.ref V (he.env.below hB)⟩⟩
theorem qbA{a b:ByteArray}(hr:RB a b):∃ X,∀ W,Env W->Calls prog 23 #[.agg #[.string a,.string b]] W (fun e w'=>e=.returned (RV X none 0)/\Below W.heap.size W w')/\Calls prog 24 #[.agg #[.string a,.string b]] W (fun e w'=>e=.returned (RV X none 0)/\Below W.heap.size W w')/\X.l=[]:=by
 rcases hr with⟨q,rfl,rfl,hq⟩|hn
 ·exact⟨(ki q).rfm,fun W he=>⟨jbN hq W he,zb3 hq W,rfl⟩⟩
 ·exact⟨kau,fun W he=>⟨zbz W fun V hB=>hn.prog V (he.below hB),vbl W fun V hB=>hn.ref V (he.below hB),rfl⟩⟩
theorem jbA{x:RFm}{ox:Option Frm}(hx:FK x ox):∃ Y z,∀ a0 a1 p c W,EnvA a0 a1 W->UAt 34 W p x.l ->
  Calls prog 15 #[RV x p c] W (IvX Y z W)/\Calls prog 16 #[RV x p c] W (IvX Y z W):=by
 cases ox with
 | none=>exact⟨kW,80,fun a0 a1 p c W he h1=>⟨zbP p c W he fun V hB=>(hx V p c (he.env.below hB) (Ai h1 hB)).1,zbm p c W fun V hB=>(hx V p c (he.env.below hB) (Ai h1 hB)).2⟩⟩
 | some f =>
  obtain⟨rfl,ho,hd⟩:=hx;by_cases hc:RangeF f
  ·refine⟨_,_,fun a0 a1 p c W he h1=>⟨(kbd (a0:=a0) (a1:=a1) ho hd p c W h1 he.env fun _=>he).1 hc,?_⟩⟩;rw[qY];exact(ybv ho hd p c W h1).mono fun e w' h=>by
    obtain⟨Y,z,⟨_,rfl,rfl⟩|⟨h,_⟩,h2⟩:=h
    ·exact h2
    ·exact absurd hc h
  ·refine⟨_,_,fun a0 a1 p c W he h1=>⟨(kbd (a0:=a0) (a1:=a1) ho hd p c W h1 he.env fun _=>he).2 hc,?_⟩⟩;rw[qY];exact(ybv ho hd p c W h1).mono fun e w' h=>by
    obtain⟨Y,z,⟨h,_⟩|⟨_,rfl,rfl⟩,h2⟩:=h
    ·exact absurd h hc
    ·exact h2
def VK(l:List RT):Option (List Trm)->Prop
 | some vs=>l=kN vs/\ValsOk vs
 | none=>∃ v1 v2,¬ (l.length<=64/\v1=true/\v2=false)/\∀ W p c,Env W->UAt 34 W p l->Calls prog 47 #[.slice p l.length c,.func (.func 48) #[] #[]] W (qa v1 W)/\Calls prog 49 #[.slice p l.length c,.func (.func 55) #[] #[]] W (qa v2 W)/\Calls prog 61 #[.slice p l.length c] W (qa false W)
theorem VK.vals{l:List RT}{ol:Option (List Trm)}(h:VK l ol)(W:World)(p:En)(c:Nat)(he:Env W)(hp:UAt 34 W p l):Calls prog 61 #[.slice p l.length c] W (qa ol.isSome W):=by
 cases ol with
 | none=>obtain⟨v1,v2,_,h⟩:=h;exact(h W p c he hp).2.2
 | some vs =>
  obtain⟨rfl,hv⟩:=h;rw[kf];exact vcu hv p c W hp
theorem vcy{x:RFm}{ox:Option Frm}(hx:FK x ox){l:List RT}{ol:Option (List Trm)}(hl:VK l ol):∃ Y z,∀ a0 a1 p c pv cv W,EnvA a0 a1 W->UAt 34 W p x.l->UAt 34 W pv l ->
  Calls prog 21 #[RV x p c,.slice pv l.length cv] W (IvX Y z W)/\Calls prog 22 #[RV x p c,.slice pv l.length cv] W (IvX Y z W):=by
 have hw:=hl.vals
 cases ox with
 | none=>exact⟨kW,80,fun a0 a1 p c pv cv W he h1 h2=>⟨kcL p c pv _ cv W he fun V hB=>(hx V p c (he.env.below hB) (Ai h1 hB)).1,kbv (v1:=false) rfl p c pv _ cv W (fun V hB=>(hx V p c (he.env.below hB) (Ai h1 hB)).2) fun V hB=>hw V pv cv (he.env.below hB) (Ai h2 hB)⟩⟩
 | some f =>
  have hf:=hx.valid;obtain⟨rfl,ho,hd⟩:=hx
  cases ol with
  | none =>
   obtain⟨v1,v2,hbad,hv⟩:=hl;exact⟨kW,80,fun a0 a1 p c pv cv W he h1 h2=>⟨yca ho hd p c pv _ cv hbad W h1 he (fun V hB=>(hv V pv cv (he.env.below hB) (Ai h2 hB)).1) (fun V hB=>(hv V pv cv (he.env.below hB) (Ai h2 hB)).2.1),kbv (v1:=true) rfl p c pv _ cv W (fun V hB=>(hf V p c (he.env.below hB) (Ai h1 hB)).2) fun V hB=>hw V pv cv (he.env.below hB) (Ai h2 hB)⟩⟩
  | some vs =>
   obtain⟨rfl,hv⟩:=hl;clear hw hf;rw[kf];by_cases hc:AtF f vs
   ·refine⟨_,_,fun a0 a1 p c pv cv W he h1 h2=>⟨(kc1 (a0:=a0) (a1:=a1) hv ho hd p c pv cv W h1 h2 he.env fun _=>he).1 hc,?_⟩⟩;rw[qY];exact(zcW hv ho hd p c pv cv W h1 h2).mono fun e w' h=>by
     obtain⟨Y,z,h,h3⟩:=h;rcases jbq hd ho hv h with⟨_,rfl,rfl⟩|⟨h,_⟩
     ·exact h3
     ·exact absurd hc h
   ·refine⟨_,_,fun a0 a1 p c pv cv W he h1 h2=>⟨(kc1 (a0:=a0) (a1:=a1) hv ho hd p c pv cv W h1 h2 he.env fun _=>he).2 hc,?_⟩⟩;rw[qY];exact(zcW hv ho hd p c pv cv W h1 h2).mono fun e w' h=>by
     obtain⟨Y,z,h,h3⟩:=h;rcases jbq hd ho hv h with⟨h,_⟩|⟨_,rfl,rfl⟩
     ·exact absurd h hc
     ·exact h3
theorem qbm{x y:RFm}{B:Bool}(hb:B=true↔x=y)(hx1:x.l.length<=1000000)(p pk:En)(c d:Nat)(w:World)(hp:UAt 34 w p x.l)(hq:UAt 34 w pk y.l):Calls prog 14 #[RV x p c,RV y pk d] w (qa B w):=by
 have hB:=Ab w;have HP:=hid hp;have HQ:=hid hq;obtain⟨n,hn⟩:∃ n,x.l.length=n:=⟨_,rfl⟩
 obtain⟨m,hm⟩:∃ n,y.l.length=n:=⟨_,rfl⟩
 unfold RV;rw[hn,hm];rw[hn]at hx1;have hnb:(n:Int)<=1000000:=oo
 have HBI:=hid hb;obtain⟨x1,x2,l,x3,x4⟩:=x;obtain⟨y1,y2,k,y3,y4⟩:=y;dsimp only at *;have HN:=hid hn;have HM:=hid hm;clear hp hq hn hm hb;go_enter func14,ntmps14;go_upto_region 1 with fail;have sB:=hB.size;refine zi (fun X=>Aa w X/\Row X w.heap.size (.cells #[.string x1,.string x2,.slice p n c,.string x3,.string x4] 26)/\Row X (w.heap.size+1) (.cells #[.string y1,.string y2,.slice pk m d,.string y3,.string y4] 26)) ⟨BW,RW8,RW8⟩ ?_;clear hB sB;rintro V1⟨hB,ra,rb⟩;have sa:=RF5 ra;have sb:=RF5 rb;by_cases h0:x1=y1
 ·subst h0;by_cases h1:x2=y2
  ·subst h1;by_cases h2:x3=y3
   ·subst h2;by_cases h3:x4=y4
    ·subst h3;by_cases hnm:n=m
     ·subst hnm;have sa:=RF5 ra;have sb:=RF5 rb;have sa:=RF5 ra;have sb:=RF5 rb;replace HBI:Hid (B=true↔l=k):=hid ⟨fun e=>by have h7:=HBI.out.1 e;injection h7,fun e=>HBI.out.2 (by rw[e])⟩;go_wp2_with fail;go_loopw[5] (fun v5 wr=>∃ i:Nat,v5=.int .i64 (i:Int)/\i<=n/\Hid (∀ j,j<i->uD l j=uD k j)/\Aa w wr/\Row wr w.heap.size (.cells #[.string x1,.string x2,.slice p n c,.string x3,.string x4] 26)/\Row wr (w.heap.size+1) (.cells #[.string x1,.string x2,.slice pk n d,.string x3,.string x4] 26)) (fun v5 _=>(n-RowKit.intOf v5).toNat)
      case atStart=>exact⟨0,rfl,Bt _,hid (fun j hj=>absurd hj (Cn j)),hB,ra,rb⟩
      case round =>
       clear sa sb hB ra rb;obtain⟨i,rfl,him,HI,hB,ra,rb⟩:=hrel;rcases AJ i n with hlt|hge
       ·have hl1:i<l.length:=by rw[HN.out];exact hlt
        have hl2:i<k.length:=by rw[HM.out];exact hlt
        have hiI:(i:Int)<(n:Int):=oo
        obtain⟨g,cur,hpg,rg,g0,g1,g2⟩:=Eh (Ai HP.out hB) hl1;obtain⟨q,cuk,hqk,rq,k0,k1,k2⟩:=Eh (Ai HQ.out hB) hl2;subst hpg hqk;obtain⟨x,hx⟩:∃ x,x=uD l i:=⟨_,rfl⟩
        obtain⟨y,hy⟩:∃ y,y=uD k i:=⟨_,rfl⟩
        rw[<- hx]at g0 g1 g2;rw[<- hy]at k0 k1 k2;obtain⟨xs,xa,xb⟩:=x;obtain⟨ys,ya,yb⟩:=y;dsimp only at g0 g1 g2 k0 k1 k2;have HX:=hid hx;have HY:=hid hy;clear hx hy;by_cases hs:xs=ys
        ·subst hs;by_cases ha:xa=ya
         ·subst ha;by_cases hb9:xb=yb
          ·subst hb9;have HE:uD l i=uD k i:=by rw[<- HX.out,<- HY.out]
           have HEE:=hid HE;clear HE HX HY;have sa:=RF5 ra;have sb:=RF5 rb;have Fg:=Eo rg g0 g1 g2
           have sg:=Fg _ rg;have Fq:=Eo rq k0 k1 k2
           have sq:=Fq _ rq;have hfy:=hid hiI;go_wp2_with fail;refine jc [.pointer (some ⟨w.heap.size,2,none⟩),.slice (some ⟨g,0,none⟩) n c,.int .i64 (i:Int),.pointer (some ⟨g,i*3,none⟩),.agg #[.int .i64 xs,.string xa,.string xb],.pointer (some ⟨w.heap.size+1,2,none⟩),.slice (some ⟨q,0,none⟩) n d,.int .i64 (i:Int),.pointer (some ⟨q,i*3,none⟩),.agg #[.int .i64 xs,.string xa,.string xb],.bool false] kr9 kr9 rfl (vC9 qv0 (vC9 (qv1 fun X h=>RF5 (Ae ra h)) (vC9 qv0 (vC9 (qvf hfy.out) (vC9 (qv1 fun X h=>Fg X (Ae rg h)) (vC9 qv0 (vC9 (qv1 fun X h=>RF5 (Ae rb h)) (vC9 qv0 (vC9 (qvf hfy.out) (vC9 (qv1 fun X h=>Fq X (Ae rq h)) (vC9 (qvf hfy.out) trivial))))))))))) ?_;rintro W h1;have stp:=St4 hB h1 ra rb rg rq;clear hB h1 ra sa rb sb rg sg rq sq;obtain⟨hB,ra,rb,rg,rq⟩:=stp;have sa:=RF5 ra;have sb:=RF5 rb;have sg:=Fg _ rg;have sq:=Fq _ rq;simp only[ve,Ah,Ak,Al];go_wp2;go_roundw
           case rel=>exact⟨i+1,by go_num,oo,hid (fun j hj=>by rcases AU.1 hj with h|rfl;(· exact HI.out j h);(· exact HEE.out)),BW,RW8,RW8⟩
           case measure=>exact El
          ·have hf:=vaw hb9;have hb:B=false:=AP.2 fun e=>by have h7:=congrArg (fun l=>uD l i) (HBI.out.1 e);simp only[<- HX.out,<- HY.out]at h7;injection h7 with h8 h9 h10;exact hb9 h10
           subst hb;clear HX HY;have sa:=RF5 ra;have sb:=RF5 rb;have Fg:=Eo rg g0 g1 g2
           have sg:=Fg _ rg;have Fq:=Eo rq k0 k1 k2
           have sq:=Fq _ rq;have hfy:=hid (AD hiI hf);go_wp2_with fail;refine jc [.pointer (some ⟨w.heap.size,2,none⟩),.slice (some ⟨g,0,none⟩) n c,.int .i64 (i:Int),.pointer (some ⟨g,i*3,none⟩),.agg #[.int .i64 xs,.string xa,.string xb],.pointer (some ⟨w.heap.size+1,2,none⟩),.slice (some ⟨q,0,none⟩) n d,.int .i64 (i:Int),.pointer (some ⟨q,i*3,none⟩),.agg #[.int .i64 xs,.string xa,.string yb],.bool true] kr9 kr9 rfl (vC9 qv0 (vC9 (qv1 fun X h=>RF5 (Ae ra h)) (vC9 qv0 (vC9 (qvf hfy.out) (vC9 (qv1 fun X h=>Fg X (Ae rg h)) (vC9 qv0 (vC9 (qv1 fun X h=>RF5 (Ae rb h)) (vC9 qv0 (vC9 (qvf hfy.out) (vC9 (qv1 fun X h=>Fq X (Ae rq h)) (vC9 (qvf hfy.out) trivial))))))))))) ?_;rintro W h1;have stp:=St4 hB h1 ra rb rg rq;clear hB h1 ra sa rb sb rg sg rq sq;obtain⟨hB,ra,rb,rg,rq⟩:=stp;have sa:=RF5 ra;have sb:=RF5 rb;have sg:=Fg _ rg;have sq:=Fq _ rq;simp only[ve,Ah,Ak,Al];go_wp2;go_ret;exact⟨rfl,hB⟩
         ·have hf:=vaw ha;have hb:B=false:=AP.2 fun e=>by have h7:=congrArg (fun l=>uD l i) (HBI.out.1 e);simp only[<- HX.out,<- HY.out]at h7;injection h7 with h8 h9 h10;exact ha h9
          subst hb;clear HX HY;have sa:=RF5 ra;have sb:=RF5 rb;have Fg:=Eo rg g0 g1 g2
          have sg:=Fg _ rg;have Fq:=Eo rq k0 k1 k2
          have sq:=Fq _ rq;have hfy:=hid (AD hiI hf);go_wp2_with fail;refine jc [.pointer (some ⟨w.heap.size,2,none⟩),.slice (some ⟨g,0,none⟩) n c,.int .i64 (i:Int),.pointer (some ⟨g,i*3,none⟩),.agg #[.int .i64 xs,.string xa,.string xb],.pointer (some ⟨w.heap.size+1,2,none⟩),.slice (some ⟨q,0,none⟩) n d,.int .i64 (i:Int),.pointer (some ⟨q,i*3,none⟩),.agg #[.int .i64 xs,.string ya,.string yb],.bool true] kr9 kr9 rfl (vC9 qv0 (vC9 (qv1 fun X h=>RF5 (Ae ra h)) (vC9 qv0 (vC9 (qvf hfy.out) (vC9 (qv1 fun X h=>Fg X (Ae rg h)) (vC9 qv0 (vC9 (qv1 fun X h=>RF5 (Ae rb h)) (vC9 qv0 (vC9 (qvf hfy.out) (vC9 (qv1 fun X h=>Fq X (Ae rq h)) (vC9 (qvf hfy.out) trivial))))))))))) ?_;rintro W h1;have stp:=St4 hB h1 ra rb rg rq;clear hB h1 ra sa rb sb rg sg rq sq;obtain⟨hB,ra,rb,rg,rq⟩:=stp;have sa:=RF5 ra;have sb:=RF5 rb;have sg:=Fg _ rg;have sq:=Fq _ rq;simp only[ve,Ah,Ak,Al];go_wp2;go_ret;exact⟨rfl,hB⟩
        ·have hb:B=false:=AP.2 fun e=>by have h7:=congrArg (fun l=>uD l i) (HBI.out.1 e);simp only[<- HX.out,<- HY.out]at h7;injection h7 with h8 h9 h10;exact hs h8
         subst hb;clear HX HY;have sa:=RF5 ra;have sb:=RF5 rb;have Fg:=Eo rg g0 g1 g2
         have sg:=Fg _ rg;have Fq:=Eo rq k0 k1 k2
         have sq:=Fq _ rq;have hfy:=hid (AD hiI hs);go_wp2_with fail;refine jc [.pointer (some ⟨w.heap.size,2,none⟩),.slice (some ⟨g,0,none⟩) n c,.int .i64 (i:Int),.pointer (some ⟨g,i*3,none⟩),.agg #[.int .i64 xs,.string xa,.string xb],.pointer (some ⟨w.heap.size+1,2,none⟩),.slice (some ⟨q,0,none⟩) n d,.int .i64 (i:Int),.pointer (some ⟨q,i*3,none⟩),.agg #[.int .i64 ys,.string ya,.string yb],.bool true] kr9 kr9 rfl (vC9 qv0 (vC9 (qv1 fun X h=>RF5 (Ae ra h)) (vC9 qv0 (vC9 (qvf hfy.out) (vC9 (qv1 fun X h=>Fg X (Ae rg h)) (vC9 qv0 (vC9 (qv1 fun X h=>RF5 (Ae rb h)) (vC9 qv0 (vC9 (qvf hfy.out) (vC9 (qv1 fun X h=>Fq X (Ae rq h)) (vC9 (qvf hfy.out) trivial))))))))))) ?_;rintro W h1;have stp:=St4 hB h1 ra rb rg rq;clear hB h1 ra sa rb sb rg sg rq sq;obtain⟨hB,ra,rb,rg,rq⟩:=stp;have sa:=RF5 ra;have sb:=RF5 rb;have sg:=Fg _ rg;have sq:=Fq _ rq;simp only[ve,Ah,Ak,Al];go_wp2;go_ret;exact⟨rfl,hB⟩
       ·obtain rfl:n=i:=oo
        have hb:B=true:=HBI.out.2 (yb8 (by rw[HN.out,HM.out]) (fun j hj=>HI.out j (by rw[<- HN.out];exact hj)));subst hb;have sa:=RF5 ra;have sb:=RF5 rb;go_wp2;go_ret;exact⟨rfl,hB⟩
     ·have hnI:¬ (n:Int)=(m:Int):=oo
      have hb:B=false:=AP.2 fun e=>by have h7:=HBI.out.1 e;injection h7 with e1 e2 e3 e4 e5;exact hnm (by rw[<- HN.out,<- HM.out,e3])
      subst hb;have sa:=RF5 ra;have sb:=RF5 rb;have hfy:=hid (AD hnI hnm);go_upto_region 1 with fail;refine zk [.pointer (some ⟨w.heap.size,0,none⟩),.agg #[.string x1,.string x2],.pointer (some ⟨w.heap.size+1,0,none⟩),.agg #[.string x1,.string x2],.bool false,.bool false,.pointer (some ⟨w.heap.size,3,none⟩),.agg #[.string x3,.string x4],.pointer (some ⟨w.heap.size+1,3,none⟩),.agg #[.string x3,.string x4],.bool false,.bool false,.bool false,.pointer (some ⟨w.heap.size,2,none⟩),.slice p n c,.int .i64 (n:Int),.pointer (some ⟨w.heap.size+1,2,none⟩),.slice pk m d,.int .i64 (m:Int),.bool true,.bool true] kr9 rfl (vC9 qv0 (vC9 (qv1 fun X h=>RF5 (Ae ra h)) (vC9 qv0 (vC9 (qv1 fun X h=>RF5 (Ae rb h)) (vC9 (qvf hfy.out) (vC9 qv0 (vC9 qv0 (vC9 (qv1 fun X h=>RF5 (Ae ra h)) (vC9 qv0 (vC9 (qv1 fun X h=>RF5 (Ae rb h)) (vC9 (qvf hfy.out) (vC9 (qvf hfy.out) (vC9 qv0 (vC9 qv0 (vC9 (qv1 fun X h=>RF5 (Ae ra h)) (vC9 (qvf hfy.out) (vC9 qv0 (vC9 (qv1 fun X h=>RF5 (Ae rb h)) (vC9 (qvf hfy.out) (vC9 (qvf hfy.out) (vC9 (qvf hfy.out) trivial))))))))))))))))))))) ?_;rintro W h1;have stp:=St2 hB h1 ra rb;clear hB h1 ra sa rb sb;obtain⟨hB,ra,rb⟩:=stp;have sa:=RF5 ra;have sb:=RF5 rb;simp only[ve,Ah,Ak,Al]
      go_wp2;go_ret;exact⟨rfl,hB⟩
    ·have hf:=vaw h3;have hb:B=false:=AP.2 fun e=>by have h7:=HBI.out.1 e;injection h7 with e1 e2 e3 e4 e5;exact h3 e5
     subst hb;have sa:=RF5 ra;have sb:=RF5 rb;have hfy:=hid hf;go_upto_region 1 with fail;refine zk [.pointer (some ⟨w.heap.size,0,none⟩),.agg #[.string x1,.string x2],.pointer (some ⟨w.heap.size+1,0,none⟩),.agg #[.string x1,.string x2],.bool false,.bool false,.pointer (some ⟨w.heap.size,3,none⟩),.agg #[.string x3,.string x4],.pointer (some ⟨w.heap.size+1,3,none⟩),.agg #[.string x3,.string y4],.bool true,.bool true,.bool true,undef,undef,undef,undef,undef,undef,undef,.bool true] kr9 rfl (vC9 qv0 (vC9 (qv1 fun X h=>RF5 (Ae ra h)) (vC9 qv0 (vC9 (qv1 fun X h=>RF5 (Ae rb h)) (vC9 (qvf hfy.out) (vC9 qv0 (vC9 qv0 (vC9 (qv1 fun X h=>RF5 (Ae ra h)) (vC9 qv0 (vC9 (qv1 fun X h=>RF5 (Ae rb h)) (vC9 (qvf hfy.out) (vC9 (qvf hfy.out) (vC9 qv0 (vC9 qv0 (vC9 qv0 (vC9 qv0 (vC9 qv0 (vC9 qv0 (vC9 qv0 (vC9 qv0 (vC9 (qvf hfy.out) trivial))))))))))))))))))))) ?_;rintro W h1;have stp:=St2 hB h1 ra rb;clear hB h1 ra sa rb sb;obtain⟨hB,ra,rb⟩:=stp;have sa:=RF5 ra;have sb:=RF5 rb;simp only[ve,Ah,Ak,Al];go_wp2;go_ret;exact⟨rfl,hB⟩
   ·have hf:=vaw h2;have hb:B=false:=AP.2 fun e=>by have h7:=HBI.out.1 e;injection h7 with e1 e2 e3 e4 e5;exact h2 e4
    subst hb;have sa:=RF5 ra;have sb:=RF5 rb;have hfy:=hid hf;go_upto_region 1 with fail;refine zk [.pointer (some ⟨w.heap.size,0,none⟩),.agg #[.string x1,.string x2],.pointer (some ⟨w.heap.size+1,0,none⟩),.agg #[.string x1,.string x2],.bool false,.bool false,.pointer (some ⟨w.heap.size,3,none⟩),.agg #[.string x3,.string x4],.pointer (some ⟨w.heap.size+1,3,none⟩),.agg #[.string y3,.string y4],.bool true,.bool true,.bool true,undef,undef,undef,undef,undef,undef,undef,.bool true] kr9 rfl (vC9 qv0 (vC9 (qv1 fun X h=>RF5 (Ae ra h)) (vC9 qv0 (vC9 (qv1 fun X h=>RF5 (Ae rb h)) (vC9 (qvf hfy.out) (vC9 qv0 (vC9 qv0 (vC9 (qv1 fun X h=>RF5 (Ae ra h)) (vC9 qv0 (vC9 (qv1 fun X h=>RF5 (Ae rb h)) (vC9 (qvf hfy.out) (vC9 (qvf hfy.out) (vC9 qv0 (vC9 qv0 (vC9 qv0 (vC9 qv0 (vC9 qv0 (vC9 qv0 (vC9 qv0 (vC9 qv0 (vC9 (qvf hfy.out) trivial))))))))))))))))))))) ?_;rintro W h1;have stp:=St2 hB h1 ra rb;clear hB h1 ra sa rb sb;obtain⟨hB,ra,rb⟩:=stp;have sa:=RF5 ra;have sb:=RF5 rb;simp only[ve,Ah,Ak,Al];go_wp2;go_ret;exact⟨rfl,hB⟩
  ·have hf:=vaw h1;have hb:B=false:=AP.2 fun e=>by have h7:=HBI.out.1 e;injection h7 with e1 e2 e3 e4 e5;exact h1 e2
   subst hb;have sa:=RF5 ra;have sb:=RF5 rb;have hfy:=hid hf;go_upto_region 1 with fail;refine zk [.pointer (some ⟨w.heap.size,0,none⟩),.agg #[.string x1,.string x2],.pointer (some ⟨w.heap.size+1,0,none⟩),.agg #[.string x1,.string y2],.bool true,.bool true,undef,undef,undef,undef,undef,.bool true,.bool true,undef,undef,undef,undef,undef,undef,undef,.bool true] kr9 rfl (vC9 qv0 (vC9 (qv1 fun X h=>RF5 (Ae ra h)) (vC9 qv0 (vC9 (qv1 fun X h=>RF5 (Ae rb h)) (vC9 (qvf hfy.out) (vC9 qv0 (vC9 qv0 (vC9 qv0 (vC9 qv0 (vC9 qv0 (vC9 qv0 (vC9 (qvf hfy.out) (vC9 qv0 (vC9 qv0 (vC9 qv0 (vC9 qv0 (vC9 qv0 (vC9 qv0 (vC9 qv0 (vC9 qv0 (vC9 (qvf hfy.out) trivial))))))))))))))))))))) ?_;rintro W h1;have stp:=St2 hB h1 ra rb;clear hB h1 ra sa rb sb;obtain⟨hB,ra,rb⟩:=stp;have sa:=RF5 ra;have sb:=RF5 rb;simp only[ve,Ah,Ak,Al];go_wp2;go_ret;exact⟨rfl,hB⟩
 ·have hf:=vaw h0;have hb:B=false:=AP.2 fun e=>by have h7:=HBI.out.1 e;injection h7 with e1 e2 e3 e4 e5;exact h0 e1
  subst hb;have sa:=RF5 ra;have sb:=RF5 rb;have hfy:=hid hf;go_upto_region 1 with fail;refine zk [.pointer (some ⟨w.heap.size,0,none⟩),.agg #[.string x1,.string x2],.pointer (some ⟨w.heap.size+1,0,none⟩),.agg #[.string y1,.string y2],.bool true,.bool true,undef,undef,undef,undef,undef,.bool true,.bool true,undef,undef,undef,undef,undef,undef,undef,.bool true] kr9 rfl (vC9 qv0 (vC9 (qv1 fun X h=>RF5 (Ae ra h)) (vC9 qv0 (vC9 (qv1 fun X h=>RF5 (Ae rb h)) (vC9 (qvf hfy.out) (vC9 qv0 (vC9 qv0 (vC9 qv0 (vC9 qv0 (vC9 qv0 (vC9 qv0 (vC9 (qvf hfy.out) (vC9 qv0 (vC9 qv0 (vC9 qv0 (vC9 qv0 (vC9 qv0 (vC9 qv0 (vC9 qv0 (vC9 qv0 (vC9 (qvf hfy.out) trivial))))))))))))))))))))) ?_;rintro W h1;have stp:=St2 hB h1 ra rb;clear hB h1 ra sa rb sb;obtain⟨hB,ra,rb⟩:=stp;have sa:=RF5 ra;have sb:=RF5 rb;simp only[ve,Ah,Ak,Al];go_wp2;go_ret;exact⟨rfl,hB⟩
end Go.Proofs.YtdiecekagiledaaGreatDoor
namespace Go.Proofs.YtdiecekagiledaaGreatDoor
open Go Go.RowKit Go.Lib Go.Shelf Go.Proofs.Tryz
theorem RB.opt{a b:ByteArray}(h:RB a b):∃ o,RK a b o/\∀ w,Env w->R4K w a b o:=by
 rcases h with⟨q,ha,hb,hq⟩|hn
 ·exact⟨some q,⟨ha,hb,hq⟩,fun _ _=>⟨ha,hb,hq⟩⟩
 ·exact⟨none,fun W he=>hn.prog W he,fun w he W hB=>hn.ref W (he.below hB)⟩
theorem RB.opts{l:List RT}(h:∀ i,i<l.length->RB (uD l i).a (uD l i).b):∃ ot:Nat->Option Rat,∀ i,i<l.length->RK (uD l i).a (uD l i).b (ot i)/\∀ w,Env w->R4K w (uD l i).a (uD l i).b (ot i):=by
 have:∀ i,∃ o:Option Rat,i<l.length->RK (uD l i).a (uD l i).b o/\∀ w,Env w->R4K w (uD l i).a (uD l i).b o:=fun i=>by
  by_cases hi:i<l.length
  ·obtain⟨o,ho⟩:=(h i hi).opt;exact⟨o,fun _=>ho⟩
  ·exact⟨none,fun k=>absurd k hi⟩
 exact⟨fun i=>Classical.choose (this i),fun i hi=>Classical.choose_spec (this i) hi⟩
theorem vbx{l:List RT}{ot:Nat->Option Rat}(h:∀ i,i<l.length->zaY l i/\RK (uD l i).a (uD l i).b (ot i)/\(ot i).isSome=true) :
  ∃ t:List Trm,l=kN t/\SrcOk t/\t.length=l.length/\∀ p,p∈t->QDig 200 p.c/\∃ i,i<l.length/\ot i=some p.c:=by
 obtain⟨f,hf⟩:∃ f:Nat->Trm,f=fun i=>⟨(uD l i).s.toNat,(ot i).getD 0⟩:=⟨_,rfl⟩
 have hs:∀ i,i<l.length->(1:Int)<=(uD l i).s/\(uD l i).s<=1000000/\((f i).s:Int)=(uD l i).s:=fun i hi=>by
  obtain⟨⟨h1,h2,_⟩,_⟩:=h i hi;exact⟨h1,h2,by rw[hf];exact Int.toNat_of_nonneg oo⟩
 have hc:∀ i,i<l.length->(uD l i).a=S (f i).c.num/\(uD l i).b=S ((f i).c.den:Int)/\QDig 200 (f i).c/\ot i=some (f i).c:=fun i hi=>by
  obtain⟨_,hk,ho⟩:=h i hi
  cases e:ot i with
  | none=>rw[e]at ho;cases ho
  | some q =>
   have ec:(f i).c=q:=by rw[hf];show(ot i).getD 0=q;rw[e];rfl
   rw[ec];rw[e]at hk;obtain⟨h1,h2,h3⟩:=hk;exact⟨h1,h2,h3,rfl⟩
 have ha:∀ d i,i+d+1<l.length->(f i).s<(f (i+d+1)).s:=by
  intro d
  induction d with
  | zero =>
   intro i hi;have h1:=(h (i+1) hi).1.2.2 oo;rw[Ca]at h1;have h2:=(hs i oo).2.2;have h3:=(hs (i+1) hi).2.2;show(f i).s<(f (i+1)).s;omega
  | succ d ih =>
   intro i hi;have h0:=ih i oo;have h1:=(h (i+d+1+1) oo).1.2.2 oo;rw[Ca]at h1;have h2:=(hs (i+d+1) oo).2.2;have h3:=(hs (i+d+1+1) oo).2.2;show(f i).s<(f (i+d+1+1)).s;omega
 have hlen:((List.range l.length).map f).length=l.length:=by simp
 have hg:∀ i,i<l.length->trD ((List.range l.length).map f) i=f i:=fun i hi=>by
  rw[vN (by rw[hlen];exact hi)];simp
 have hm:∀ p,p∈(List.range l.length).map f->∃ i,i<l.length/\p=f i:=fun p hp=>by
  obtain⟨i,hi,rfl⟩:=BR.1 hp;exact⟨i,BB.1 hi,rfl⟩
 refine⟨(List.range l.length).map f,?_,⟨fun p hp => ?_,?_⟩,hlen,fun p hp => ?_⟩
 ·refine yb8 (by rw[kf,hlen]) fun i hi => ?_
  rw[yQ (by rw[hlen];exact hi),hg i hi];obtain⟨h1,h2,_⟩:=hc i hi;have h3:=(hs i hi).2.2;unfold Trm.raw;rw[h3,<- h1,<- h2]
 ·obtain⟨i,hi,rfl⟩:=hm p hp;obtain⟨h1,h2,h3⟩:=hs i hi;omega
 ·rw[List.pairwise_iff_getElem];intro i j hi hj hij;rw[hlen]at hi hj;obtain⟨d,rfl⟩:∃ d,j=i+d+1:=⟨j-i-1,oo⟩
  simpa using ha d i hj
 ·obtain⟨i,hi,rfl⟩:=hm p hp;obtain⟨_,_,h1,h2⟩:=hc i hi;exact⟨h1,i,hi,h2⟩
theorem qcj(x:RFm)(hc:RB x.c1 x.c2)(hr:RB x.r1 x.r2)(ht:∀ i,i<x.l.length->RB (uD x.l i).a (uD x.l i).b):∃ o,FK x o:=by
 obtain⟨oc,c1,c2⟩:=hc.opt;obtain⟨orr,r1,r2⟩:=hr.opt;obtain⟨ot,hot⟩:=RB.opts ht;by_cases hv:vfB oc orr ot x.l x.l.length=true
 ·obtain⟨h1,⟨r,hre,h2⟩,h3,h4⟩:=(zaZ rfl).1 hv;subst hre
  cases oc with
  | none=>cases h1
  | some c =>
   obtain⟨e1,e2,dc⟩:=c1;obtain⟨e3,e4,dr⟩:=r1;obtain⟨t,e5,hs,hl,hq⟩:=vbx (l:=x.l) (ot:=ot) fun i hi=>⟨(h4 i hi).1,(hot i hi).1,by
    have:=(h4 i hi).2
    cases e:ot i with
    | none=>rw[e]at this;cases this
    | some q=>rfl⟩
   refine⟨some ⟨c,t,r⟩,?_,⟨by show t.length<=64;omega,hs,fun p hp => ?_,h2⟩,⟨dc,fun p hp=>(hq p hp).1,dr⟩⟩
   ·obtain⟨x1,x2,x3,x4,x5⟩:=x;dsimp only at e1 e2 e3 e4 e5;subst e1 e2 e3 e4 e5;rfl
   ·obtain⟨_,i,hi,h5⟩:=hq p hp;have:=(h4 i hi).2;rw[h5]at this;exact of_decide_eq_false this
 ·have hv':vfB oc orr ot x.l x.l.length=false:=by simpa using hv
  refine⟨none,fun W p c he hp=>⟨?_,?_⟩⟩
  ·have:=vbP c1 r1 (fun i hi=>(hot i hi).1) p c rfl W hp he;rw[hv']at this;exact this
  ·have:=vbv p _ c rfl W (c2 W he) (r2 W he) (fun i hi=>(hot i hi).2 W he) hp;rw[hv']at this;exact this
theorem ycs(l:List RT)(hn:l.length<=1000000)(ht:∀ i,i<l.length->RB (uD l i).a (uD l i).b):∃ o,VK l o:=by
 obtain⟨ot,hot⟩:=RB.opts ht;by_cases hv:vvB ot l l.length=true
 ·obtain⟨h3,h4⟩:=(qaZ rfl).1 hv;obtain⟨t,e5,hs,hl,hq⟩:=vbx (l:=l) (ot:=ot) fun i hi=>⟨(h4 i hi).1,(hot i hi).1,by
   have:=(h4 i hi).2
   cases e:ot i with
   | none=>rw[e]at this;cases this
   | some q=>rfl⟩
  refine⟨some t,e5,⟨oo,hs,fun p hp => ?_,fun p hp=>(hq p hp).1⟩⟩;obtain⟨_,i,hi,h5⟩:=hq p hp;have:=(h4 i hi).2;rw[h5]at this;have:=zaB this;exact this
 ·have hv':vvB ot l l.length=false:=by simpa using hv
  refine⟨none,decide (qbd l),decide (∃ i,i<l.length/\(!zaR (-1) 1 (ot i))=true),fun⟨h1,h2,h3⟩ => ?_,fun W p c he hp=>⟨vcY p _ c rfl hn W hp,?_,?_⟩⟩
  ·unfold vvB at hv';rw[h2,h3,decide_eq_true h1]at hv'
   cases hv'
  ·exact jaI (fun i => !zaR (-1) 1 (ot i)) 55 (enters_of func55 kr9 rfl) p _ c rfl hn W hp fun i hi V hB=>jct (uD l i) (hot i hi).1 V (he.below hB)
  ·have:=zb4 p _ c rfl W (fun i hi=>(hot i hi).2 W he) hp;rw[hv']at this;exact this
def kc0(b1 b2:ByteArray)(L:List RT)(b3 b4:ByteArray):Prop:=∀(W:World) (p:En) (c:Nat),UAt 34 W p L->Env W->Calls prog 17 #[.agg #[.string b1,.string b2,.slice p L.length c,.string b3,.string b4]] W (qa false W)
theorem yb1{w:World}{base base' n m:Nat}{e:TypeId}{size:Nat}{v u:Value}{xs ys:List Value}(h:w.ownsRow base e size v n xs)(h':w.ownsRow base' e size u m ys){j:Nat}{a b:Value}(hx:xs[j]? = some a)(hy:ys[j]? = some b)(hab:a≠b):v.ownBlock=none\/v.ownBlock≠u.ownBlock:=by
 cases hv:v.ownBlock with
 | none=>exact .inl rfl
 | some g =>
  refine .inr fun e => ?_
  have c1:=h.cells hv j a hx;have c2:=h'.cells e.symm j b hy;rw[c1]at c2;exact hab (Di c2)
def TApart(H L:List Trm)(ph:En):Prop:=ph=none\/∃ a b,(zm (kN H))[1]? = some a/\(zm (kN L))[1]? = some b/\a≠b
theorem TApart.kept{w w':World}{n0 ch cl:Nat}{ph pl:En}{H L:List Trm}(ho:OT w n0 ph ch H)(h:OT w n0 pl cl L)(ha:TApart H L ph)(hg:w.grownBy w' (Value.slice ph H.length ch).ownBlock):OT w' n0 pl cl L:=by
 refine World.ownsRow.kept h hg ?_;rcases ha with rfl|⟨a,b,h1,h2,h3⟩
 ·cases pl with
  | none=>exact .inl rfl
  | some a=>exact .inr (fun e=>by cases e)
 ·exact yb1 h ho h2 h1 (fun e=>h3 e.symm)
theorem zbJ{l:List Trm}{t:Trm}{a:Value}(h:(zm (kN l))[1]? = some a):(zm (kN (l++[t])))[1]? = some a:=by
 rw[qaX,qM,BS]
 ·exact h
 ·exact(CQ.1 h).1
theorem TApart.more{H L:List Trm}{t:Trm}{ph:En}(h:TApart H L ph):TApart H (L++[t]) ph:=by
 rcases h with h|⟨a,b,h1,h2,h3⟩
 ·exact .inl h
 ·exact .inr ⟨a,b,h1,zbJ h2,h3⟩
abbrev OU(W:World)(n0:Nat)(p:En)(j c:Nat)(l:List RT):Prop:=W.ownsRow n0 34 3 (.slice p j c) j (zm l)
theorem OU.later{W W':World}{n0 j c:Nat}{p:En}{l:List RT}(h:OU W n0 p j c l)(hB:Below W.heap.size W W'):OU W' n0 p j c l:=jN h hB
theorem OU.nil(W:World)(n0:Nat):OU W n0 none 0 0 []:=⟨rfl,.inl ⟨rfl,rfl⟩⟩
theorem qby{W:World}{g:Nat}{s:Int}{a b:ByteArray}(r:Row W g (.cells #[.int .i64 s,.string a,.string b] 34)):UAt 34 W (some ⟨g,0,none⟩) [⟨s,a,b⟩]:=.inr ⟨g,_,rfl,r,rfl⟩
theorem qb5{T:TypeId}{w:World}{q:En}{m:List RT}(hr:UAt T w q m):Reads w w.heap.size 3 q m.length (zm m):=by
 refine⟨qW m,fun h0 => ?_⟩;rcases hr with⟨he,_⟩|⟨g,cur,rfl,hg,hx⟩
 ·rw[he]at h0;exact absurd h0 (Nat.lt_irrefl _)
 ·refine⟨_,rfl,hg.1,fun j u hu => ?_⟩;have hu2:cur[j]? = some u:=by
   rw[<- hx,AW]at hu;split at hu
   ·rwa[CP]at hu
   ·cases hu
  have:=Row.cell_lit' hg j hu2;rcases Az j with rfl|hj
  ·simpa[Addr.add]using this
  ·simpa[Addr.add,Nat.ne_of_gt hj]using this
theorem vaf{ops:Array Oper}{rest:List Oper}{o:Oper}{a:Act}{Q:Exit->Act->World->Prop}{w:World}(hgd:o.guard=none)(s x:Operand)
  (ho:o.op=.call { callee:=.builtin .append,args:=#[s,x],argTypes:=#[24,24] }) (n0:Nat) (p:En) (j c:Nat) (l:List RT) (hs:a.eval s=.slice p j c) (hown:OU w n0 p j c l)
  (q:En) (k d:Nat) (m:List RT) (hx:a.eval x=.slice q k d) (hk:m.length=k) (hr:UAt 34 w q m) (t:Nat) (ht:j+k=t) (hl:j<=100000) (hm:k<=100000) (hbase:n0<=w.heap.size)
  (h:∀ p' c' w',OU w' n0 p' t c' (l++m)->w.grownBy w' (Value.slice p j c).ownBlock->wpList prog ops Q rest (a.put o.dst (.slice p' t c')) w'):wpList prog ops Q (o :: rest) a w:=by
 obtain⟨i0,hi,hz0,hz1,hz2⟩:=info_parts qao;subst hk ht;refine jr _ hgd s x 24 ho n0 34 i0 (.agg #[.int .i64 0,.string ⟨#[]⟩,.string ⟨#[]⟩]) 3 40 underlying24 hi hz0 hz1 hz2 rfl dd (.slice p j c) j (zm l) hs hown w.heap.size q m.length d
  (zm m) hx (qb5 hr) (yaO _) (by unfold maxLen;omega) oo hbase ?_
 intro v' w' hown' hg;obtain⟨p',c',rfl⟩:=zh hown';rw[<- qM]at hown';exact h p' c' w' hown' hg
def SayOwnS(n0 j:Nat)(l:List RT):zY:=fun v W=>∃ p c,v=.slice p j c/\W.ownsRow n0 60 3 (.slice p j c) j (zm l)
theorem SayOwnS.mono(n0 j:Nat)(l:List RT):zaH (SayOwnS n0 j l):=fun v W W' ⟨p,c,e,h⟩ hB=>⟨p,c,e,jN h hB⟩
def NotOkL(b1 b2:ByteArray)(L:List RT)(m:Nat)(b3 b4:ByteArray):Prop:=L.length=m/\kc0 b1 b2 L b3 b4
theorem NotOkL.valid{b1 b2:ByteArray}{L:List RT}{m:Nat}{b3 b4:ByteArray}(h:NotOkL b1 b2 L m b3 b4)(W:World)(p:En)(c:Nat)(hu:UAt 34 W p L)(he:Env W):Calls prog 17 #[.agg #[.string b1,.string b2,.slice p m c,.string b3,.string b4]] W (qa false W):=by
 obtain⟨rfl,h⟩:=h;exact h W p c hu he
end Go.Proofs.YtdiecekagiledaaGreatDoor
namespace Go.Proofs.YtdiecekagiledaaGreatDoor
open Go Go.RowKit Go.Lib Go.Shelf Go.Proofs.Tryz
attribute [local go_sem] yg
def yF(a:ByteArray):ByteArray:=a.extract 0 (min (a.size:Int) 30).toNat
theorem kbr(a:ByteArray):Str (yF a):=by
 unfold yF Str;rw[DX];omega
theorem yaR(a b:ByteArray):RB (yF a) (yF b):=jb4 _ _ (kbr a) (kbr b)
def qcJ(x:RT):RT:=⟨x.s,yF x.a,yF x.b⟩
def qap(f:Nat->RT):Nat->List RT
 | 0=>[]
 | k+1=>qap f k++[qcJ (f k)]
theorem yC(f:Nat->RT):∀ k,(qap f k).length=k
 | 0=>rfl
 | k+1=>by unfold qap;rw[AQ,yC f k];rfl
theorem zbt(f:Nat->RT):∀ k x,x∈qap f k->∃ y,x=qcJ y
 | 0,x,h=>absurd h (by simp[qap])
 | k+1,x,h=>by
  unfold qap at h;rcases Cm.1 h with h|h
  ·exact zbt f k x h
  ·simp only[DL]at h;exact⟨_,h⟩
theorem qbV(f:Nat->RT)(k:Nat):∀ i,i<(qap f k).length->RB (uD (qap f k) i).a (uD (qap f k) i).b:=fun i hi=>by
 have hm:uD (qap f k) i∈qap f k:=by rw[jb8 hi];exact CK hi
 obtain⟨y,hy⟩:=zbt f k _ hm;rw[hy];exact yaR _ _
def XT(W:World)(p:En)(n:Nat)(f:Nat->RT):Prop:=n=0\/∃ g o,p=some ⟨g,o,none⟩/\g<W.heap.size/\∀ i,i<n->W.cell? ⟨g,o+i*3,none⟩=some (.int .i64 (f i).s)/\W.cell? ⟨g,o+i*3+1,none⟩=some (.string (f i).a)/\W.cell? ⟨g,o+i*3+2,none⟩=some (.string (f i).b)
def qcw(a b:ByteArray)(w:World)(e:Ending)(w':World):Prop:=e=.returned (.agg #[.string (yF a),.string (yF b)])/\Aa w w'
theorem qbj(a b:ByteArray)(w:World):Calls prog 6 #[.agg #[.string a,.string b]] w (qcw a b w):=by
 have hB:=Ab w;go_enter func6,ntmps6;have hfx:=hid (AD (show min (a.size:Int) 30<=(a.size:Int) by omega) (AD (show 0<=min (a.size:Int) 30 by omega) (AD (show min (b.size:Int) 30<=(b.size:Int) by omega) (show 0<=min (b.size:Int) 30 by omega))));go_wp2_with fail;have d0_o:w.heap.size<=w.heap.size+1:=by have:=hB.size;omega
 have sB:=hB.size;refine zi (fun X=>Aa w X/\Row X w.heap.size (.cells #[.string a,.string b] 23)/\Row X (w.heap.size+1) oR0) ⟨BW,RW8,RW8⟩ ?_;clear hB sB;rintro V1⟨hB,rr,ro⟩;have sr:=RF2 rr;have so:=vd ro;refine qe 15 [.val (.pointer (some ⟨w.heap.size,0,none⟩)),.val (.string a),.val (.pointer (some ⟨w.heap.size,0,none⟩)),.val (.string a),.val (.int .i64 ((a:ByteArray).size:Int)),.val (.int .i64 (min (a.size:Int) 30)),.val (.string (a.extract 0 (min (a.size:Int) 30).toNat)),.val (.pointer (some ⟨w.heap.size,1,none⟩)),.val (.string b),.val (.pointer (some ⟨w.heap.size,1,none⟩)),.val (.string b),.val (.int .i64 ((b:ByteArray).size:Int)),.val (.int .i64 (min (b.size:Int) 30)),.val (.string (b.extract 0 (min (b.size:Int) 30).toNat)),.val (.agg #[.string (a.extract 0 (min (a.size:Int) 30).toNat),.string (b.extract 0 (min (b.size:Int) 30).toNat)])] kr9 kr9 trivial (iC qi0 (iC (qi1 fun X h=>RF2 (Ae rr h)) (iC qi0 (iC (qi1 fun X h=>RF2 (Ae rr h)) (iC (qif hfx.out) (iC (qif hfx.out) (iC (qif hfx.out) (iC qi0 (iC (qi1 fun X h=>RF2 (Ae rr h)) (iC qi0 (iC (qi1 fun X h=>RF2 (Ae rr h)) (iC (qif hfx.out) (iC (qif hfx.out) (iC (qif hfx.out) (iC (qif hfx.out) trivial))))))))))))))) ?_;rintro W h1;have stp:=St2 hB h1 rr ro;clear hB h1 rr sr ro so
 obtain⟨hB,rr,ro⟩:=stp;have sr:=RF2 rr;have so:=vd ro;simp only[je,Ah,Ak,Al,AB,AI,AC,AH];go_wp2_with fail;have sB:=hB.size;refine vc (fun X=>Aa w X/\Row X (w.heap.size+1) (.cells #[.string (a.extract 0 (min (a.size:Int) 30).toNat),.string (b.extract 0 (min (b.size:Int) 30).toNat)] 23)) ⟨BW,RW8⟩ ?_;clear rr sr ro so hB sB;rintro V2⟨hB,ro⟩;have so:=vd ro;refine bodyPost_ret (v:=.agg #[.string (a.extract 0 (min (a.size:Int) 30).toNat),.string (b.extract 0 (min (b.size:Int) 30).toNat)]) ?res rfl ⟨rfl,hB⟩
 case res=>simp[results,results6,go_sem,so]
def kc8(c1 c2 r1 r2:ByteArray)(l:List RT)(w:World)(e:Ending)(w':World):Prop:=∃ p c,UAt 34 w' p l/\e=.returned (RV ⟨yF c1,yF c2,l,yF r1,yF r2⟩ p c)/\Aa w w'
theorem jcT{c1 c2 r1 r2:ByteArray}{p:En}{n c:Nat}{f:Nat->RT}(hn:n<=9223372036854775807)(w:World)(hx:XT w p n f):Calls prog 5 #[.agg #[.string c1,.string c2,.slice p n c,.string r1,.string r2]] w (kc8 c1 c2 r1 r2 (qap f (min n 66)) w):=by
 have hB:=Ab w;have MS:=fun a b W=>qbj a b W
 unfold qcw at MS;have HX:=hid hx;obtain⟨N,hN⟩:∃ N,N=min n 66:=⟨_,rfl⟩
 rw[<- hN];have HNN:=hid hN;clear hN hx;unfold kc8 RV;go_enter func5,ntmps5;go_wp2_with fail;have d0_v:w.heap.size<=w.heap.size+1:=by have:=hB.size;omega
 have sB:=hB.size;refine zi (fun X=>Aa w X/\Row X w.heap.size (.cells #[.string c1,.string c2,.slice p n c,.string r1,.string r2] 26)/\Row X (w.heap.size+1) oF0) ⟨BW,RW8,RW8⟩ ?_;clear hB sB;rintro V1⟨hB,rf,rv⟩;have sf:=RF5 rf;have sv:=kd rv;have df_out:=rf.1;have dv_out:=rv.1;have d0_out:=hB.size;refine jj 8 [.val (.pointer (some ⟨w.heap.size,0,none⟩)),.val (.agg #[.string c1,.string c2]),.val (.agg #[.string (yF c1),.string (yF c2)]),.val (.pointer (some ⟨w.heap.size,3,none⟩)),.val (.agg #[.string r1,.string r2]),.val (.agg #[.string (yF r1),.string (yF r2)]),.val (.agg #[.string (yF c1),.string (yF c2),.slice none 0 0,.string (yF r1),.string (yF r2)]),.say (kbC _ oF0)] [3] kr9 kr9 rfl ⟨kac _ _,trivial⟩ (iC qi0 (iC (qi1 fun X h=>RF5 (Ae rf h)) (iC (qi2 fun X h=>MS c1 c2 X) (iC qi0 (iC (qi1 fun X h=>RF5 (Ae rf h)) (iC (qi2 fun X h=>MS r1 r2 X) (iC qi0 (iC qia trivial)))))))) ?_;rintro W h1;have stp:=St2 hB h1 rf rv;clear hB h1 rf sf rv sv;obtain⟨hB,rf,rv⟩:=stp;have sf:=RF5 rf;have sv:=kd rv;simp only[je,Ah,Ak,Al,AB,AI,AC,AH];rintro _⟨pout,rfl,hout,rout⟩;replace df_out:=AG df_out hout;replace dv_out:=AG dv_out hout;replace d0_out:=Bb d0_out hout
 have sout:=kd rout;intro _;go_wp2_with fail;have sB:=hB.size;refine zi (kp2 hB rf rv fun X=>Row X pout (.cells #[.string (yF c1),.string (yF c2),.slice none 0 0,.string (yF r1),.string (yF r2)] 26)) ⟨BW,RW8,RW8,RW8⟩ ?_;unfold kp2;clear rf sf rv sv rout sout hB sB;rintro V2⟨hB,rf,rv,rout⟩;have sf:=RF5 rf;have sv:=kd rv;have sout:=kd rout;have hob2:w.heap.size+1<pout:=oo
 clear sf sv sout;go_loopw[4] (fun v4 wr=>∃(i:Nat) (sA:En) (sC:Nat),v4=.int .i64 (i:Int)/\i<=n/\i<=66/\OU wr (pout+1) sA i sC (qap f i)/\Aa w wr/\Row wr pout (.cells #[.string (yF c1),.string (yF c2),.slice sA i sC,.string (yF r1),.string (yF r2)] 26)/\Row wr w.heap.size (.cells #[.string c1,.string c2,.slice p n c,.string r1,.string r2] 26)/\Row wr (w.heap.size+1) oF0) (fun v4 _=>(67-RowKit.intOf v4).toNat)
 case atStart=>exact⟨0,none,0,rfl,Bt _,oo,⟨rfl,.inl ⟨rfl,rfl⟩⟩,hB,rout,rf,rv⟩
 case round =>
  clear hB rf rv rout;obtain⟨i,sA,sC,rfl,hin,hi66,hown,hB,rout,rf,rv⟩:=hrel;by_cases hc:i<n/\i<66
  ·obtain⟨hlt,hlt2⟩:=hc;obtain⟨g,o,rfl,hg,hcx⟩:∃ g o,p=some ⟨g,o,none⟩/\g<w.heap.size/\∀ i,i<n->w.cell? ⟨g,o+i*3,none⟩=some (.int .i64 (f i).s)/\w.cell? ⟨g,o+i*3+1,none⟩=some (.string (f i).a)/\w.cell? ⟨g,o+i*3+2,none⟩=some (.string (f i).b):=HX.out.resolve_left oo;have hlI:(i:Int)<(n:Int):=oo
   have hlI2:(i:Int)<66:=oo
   obtain⟨y0,y1,y2⟩:=hcx i hlt;obtain⟨x,hx⟩:∃ x,x=f i:=⟨_,rfl⟩
   rw[<- hx]at y0 y1 y2;have cy0:=(hB.cell (p:=⟨g,o+i*3,none⟩) hg).trans y0;have cy1:=(hB.cell (p:=⟨g,o+i*3+1,none⟩) hg).trans y1;have cy2:=(hB.cell (p:=⟨g,o+i*3+2,none⟩) hg).trans y2;have htk:qap f (i+1)=qap f i++[qcJ x]:=by rw[hx];rfl
   have HTK:=hid htk;have hgw:g<wr.heap.size:=AG hg hB.size;clear hx hcx y0 y1 y2 htk;have sf:=RF5 rf;have sv:=kd rv;have sout:=kd rout;go_upto_region 5 with fail;go_wp2_with fail;refine jj 17 [.val (.pointer (some ⟨pout,2,none⟩)),.val (.slice sA i sC),.val (.pointer (some ⟨w.heap.size,2,none⟩)),.val (.slice (some ⟨g,o,none⟩) n c),.val (.int .i64 (i:Int)),.val (.pointer (some ⟨g,o+i*3,none⟩)),.val (.pointer (some ⟨g,o+i*3,none⟩)),.val (.int .i64 x.s),.val (.pointer (some ⟨w.heap.size,2,none⟩)),.val (.slice (some ⟨g,o,none⟩) n c),.val (.int .i64 (i:Int)),.val (.pointer (some ⟨g,o+i*3,none⟩)),.val (.pointer (some ⟨g,o+i*3+1,none⟩)),.val (.agg #[.string x.a,.string x.b]),.val (.agg #[.string (yF x.a),.string (yF x.b)]),.val (.agg #[.int .i64 x.s,.string (yF x.a),.string (yF x.b)]),.say (SayNew 1 34 #[.int .i64 x.s,.string (yF x.a),.string (yF x.b)])] [] kr9 kr9 rfl ⟨Dt _ _ _,trivial⟩ (iC qi0 (iC (qi1 fun X h=>kd (Ae rout h)) (iC qi0 (iC (qi1 fun X h=>RF5 (Ae rf h)) (iC qi0 (iC (qif hlI) (iC qi0 (iC (qi1 fun X h=>(h.cell (p:=⟨g,o+i*3,none⟩) hgw).trans cy0) (iC qi0 (iC (qi1 fun X h=>RF5 (Ae rf h)) (iC qi0 (iC (qif hlI) (iC qi0 (iC (qi1 fun X h=>AD ((h.cell (p:=⟨g,o+i*3+1,none⟩) hgw).trans cy1) ((h.cell (p:=⟨g,o+i*3+2,none⟩) hgw).trans cy2)) (iC (qi2 fun X h=>MS x.a x.b X) (iC qi0 (iC qin trivial))))))))))))))))) ?_
   rintro W h1;replace hown:=jN hown h1;have stp:=St3 hB h1 rf rv rout;clear hB h1 rf sf rv sv rout sout;obtain⟨hB,rf,rv,rout⟩:=stp;have sf:=RF5 rf;have sv:=kd rv;have sout:=kd rout;simp only[je,Ah,Ak,Al,AB,AI,AC,AH];rintro _⟨gb,rfl,rgb⟩;intro _;have huat:=qby rgb;go_wp2_with (at_builtin;refine vaf rfl (.tmp 24) (.tmp 39) rfl (pout+1) sA i sC (qap f i) rfl hown _ 1 1 [qcJ x] rfl rfl huat (i+1) rfl oo oo (by have:=rout.1;omega) ?_;intro p9 c9 Y9 own9 hg9;replace rf:=zj hown hg9 rf oo;replace rv:=zj hown hg9 rv oo;replace rout:=zj hown hg9 rout oo;replace hB:=Below.grown hB hg9 hB.size (fun k hk=>by have:=(World.ownsRow.lt hown k hk).1;omega);clear hg9 hown rgb huat;(try clear sf sv sout);rw[<- HTK.out]at own9;have sout:=kd rout);go_wp2;go_roundw
   case rel=>exact⟨i+1,p9,c9,by go_num,oo,oo,kaa own9 rout yar 2 _,BW,RW8,RW8,RW8⟩
   case measure=>exact El
  ·have hiN:i=N:=by have:=HNN.out;omega
   subst hiN;have sf:=RF5 rf;have sv:=kd rv;have sout:=kd rout;go_upto_region 3 with fail;go_cut[20] (fun s20 W=>s20=.bool false/\Aa w W/\Row W w.heap.size (.cells #[.string c1,.string c2,.slice p n c,.string r1,.string r2] 26)/\Row W (w.heap.size+1) oF0/\Row W pout (.cells #[.string (yF c1),.string (yF c2),.slice sA i sC,.string (yF r1),.string (yF r2)] 26)/\OU W (pout+1) sA i sC (qap f i))
   case first =>
    rcases AJ i n with h1|h1
    ·have h2:(i:Int)<(n:Int):=oo
     have h3:¬ (i<66):=oo
     go_wp2;go_meet
     case rel=>exact⟨(by rw[decide_eq_false (show ¬ ((i:Int)<66) by omega)]),BW,RW8,RW8,RW8,OW⟩
    ·have h2:¬ (i<n):=oo
     go_wp2;go_meet
     case rel=>exact⟨(by first|rfl|rw[decide_eq_false h2]),BW,RW8,RW8,RW8,OW⟩
   case rest =>
    clear hB rf rv rout hown sf sv sout;obtain⟨rfl,hB,rf,rv,rout,hown⟩:=hcut;have sB:=hB.size;clear sB;have sf:=RF5 rf;have sv:=kd rv;have sout:=kd rout;go_wp2_with fail;have sB:=hB.size;refine vc (fun X=>Aa w X/\Row X (w.heap.size+1) (.cells #[.string (yF c1),.string (yF c2),.slice sA i sC,.string (yF r1),.string (yF r2)] 26)/\OU X (pout+1) sA i sC (qap f i)) ⟨BW,RW8,OW⟩ ?_;clear rf sf rv sv rout sout hB sB hown;rintro V4⟨hB,rv,hown⟩;have sv:=kd rv;refine bodyPost_ret (v:=.agg #[.string (yF c1),.string (yF c2),.slice sA i sC,.string (yF r1),.string (yF r2)]) ?res rfl ⟨sA,sC,yaG hown (yC f i),(by rw[yC]),hB⟩
    case res=>simp[results,results5,go_sem,sv]
end Go.Proofs.YtdiecekagiledaaGreatDoor
namespace Go.Proofs.YtdiecekagiledaaGreatDoor
open Go Go.RowKit Go.Lib Go.Shelf Go.Proofs.Tryz
theorem ycT{c0 r0:Int}(hc:jo c0)(hr:jo r0)(x:Nat->Int)(hx:∀ i,i<6->jo (x i))(w:World):Calls prog 7 #[.agg #[.int .i64 c0,.int .i64 r0,.int .i64 (x 0),.int .i64 (x 1),.int .i64 (x 2),.int .i64 (x 3),.int .i64 (x 4),.int .i64 (x 5)]] w (FIs (zaF c0 r0 x) w):=by
 have hB:=Ab w;have M:=fun W=>jcW hc hr x hx W
 unfold FIs;unfold FIs at M;generalize zaF c0 r0 x=G at *;unfold FV at *;clear hc hr hx;go_enter func7,ntmps7;go_wp2_with fail;have d0_o:w.heap.size<=w.heap.size+1:=by have:=hB.size;omega
 have sB:=hB.size;refine za (fun X=>Aa w X/\Row X (w.heap.size+1) oF0) ⟨BW,RW8⟩ ?_;clear hB sB;rintro V1⟨hB,ro⟩;have so:=kd ro;refine(M _).mono ?_;rintro e W2⟨p,c,hT,rfl,h1⟩;have stp:=St1 hB h1 ro;clear hB h1 ro so;obtain⟨hB,ro⟩:=stp;have so:=kd ro;go_wp2_with fail;have sB:=hB.size;refine vc (fun X=>Aa w X/\Row X (w.heap.size+1) (oF G.c G.r p G.t.length c)/\TAt 34 X p G.t) ⟨BW,RW8,TW⟩ ?_;clear ro so hB sB hT;rintro V3⟨hB,ro,hT⟩;have so:=kd ro;refine bodyPost_ret (v:=.agg #[.string (S G.c.num),.string (S (G.c.den:Int)),.slice p G.t.length c,.string (S G.r.num),.string (S (G.r.den:Int))]) ?res rfl ⟨p,c,hT,rfl,hB⟩
 case res=>simp[results,results7,go_sem,so]
theorem ybZ(c r:Int)(x:Nat->Int):FK (zaF c r x).rfm (some (zaF c r x)):=⟨rfl,jbu c r x,(kcl c r x).dig dd (by decide +kernel) (by decide +kernel)⟩
theorem ycI(x:Nat->Int):VK (kN (vTo x 6)) (some (vTo x 6)):=⟨rfl,jcs x dd⟩
theorem kcU:VK [] (some []):=⟨rfl,⟨Bt _,DY,fun p h=>absurd h (by simp),fun p h=>absurd h (by simp)⟩⟩
theorem yct(c1 c2 r1 r2:ByteArray)(f:Nat->RT)(k:Nat):∃ o,FK ⟨yF c1,yF c2,qap f k,yF r1,yF r2⟩ o:=qcj _ (yaR _ _) (yaR _ _) (qbV f k)
theorem ycR(f:Nat->RT)(k:Nat)(hk:k<=66):∃ o,VK (qap f k) o:=ycs _ (by rw[yC];omega) (qbV f k)
structure PairOk(x y:RFm)(a b:ByteArray):Prop where
 add:∃ X z,X.l.length<=1000000/\∀ a0 a1 pa ca pb cb W,EnvA a0 a1 W->UAt 34 W pa x.l->UAt 34 W pb y.l ->
  Calls prog 8 #[RV x pa ca,RV y pb cb] W (FX X z W)/\Calls prog 9 #[RV x pa ca,RV y pb cb] W (FX X z W)
 sub:∃ X z,X.l.length<=1000000/\∀ a0 a1 pa ca pb cb W,EnvA a0 a1 W->UAt 34 W pa x.l->UAt 34 W pb y.l ->
  Calls prog 10 #[RV x pa ca,RV y pb cb] W (FX X z W)/\Calls prog 11 #[RV x pa ca,RV y pb cb] W (FX X z W)
 scale:∃ X z,X.l.length<=1000000/\∀ a0 a1 pa ca W,EnvA a0 a1 W->UAt 34 W pa x.l ->
  Calls prog 12 #[RV x pa ca,.agg #[.string a,.string b]] W (FX X z W)/\Calls prog 13 #[RV x pa ca,.agg #[.string a,.string b]] W (FX X z W)
 range:∃ Y z,∀ a0 a1 p c W,EnvA a0 a1 W->UAt 34 W p x.l ->
  Calls prog 15 #[RV x p c] W (IvX Y z W)/\Calls prog 16 #[RV x p c] W (IvX Y z W)
 valid:∃ v,∀ W p c,Env W->UAt 34 W p x.l->Calls prog 17 #[RV x p c] W (qa v W)/\Calls prog 18 #[RV x p c] W (qa v W)
 same:x.l.length<=1000000->∃ v,∀ W p c q d,UAt 34 W p x.l->UAt 34 W q y.l->Calls prog 19 #[RV x p c,RV y q d] W (qa v W)/\Calls prog 14 #[RV x p c,RV y q d] W (qa v W)
 at_:∀ l,(∃ ol,VK l ol)->∃ Y z,∀ a0 a1 p c pv cv W,EnvA a0 a1 W->UAt 34 W p x.l->UAt 34 W pv l ->
  Calls prog 21 #[RV x p c,.slice pv l.length cv] W (IvX Y z W)/\Calls prog 22 #[RV x p c,.slice pv l.length cv] W (IvX Y z W)
theorem jbl{x y:RFm}(hx:∃ o,FK x o)(hy:∃ o,FK y o){a b:ByteArray}(hr:RB a b):PairOk x y a b:=by
 obtain⟨ox,hx⟩:=hx;obtain⟨oy,hy⟩:=hy;refine⟨zce hx hy,qce hx hy,kbA hx hr,jbA hx,⟨_,fun W p c he h=>hx.valid W p c he h⟩,fun hn => ?_,fun l ⟨ol,hl⟩=>vcy hx hl⟩;by_cases h:x=y
 ·exact⟨true,fun W p c q d h1 h2=>⟨jbP ⟨fun _=>h,fun _=>rfl⟩ hn p q c d W h1 h2,qbm ⟨fun _=>h,fun _=>rfl⟩ hn p q c d W h1 h2⟩⟩
 ·exact⟨false,fun W p c q d h1 h2=>⟨jbP ⟨fun e=>(by cases e),fun e=>absurd e h⟩ hn p q c d W h1 h2,qbm ⟨fun e=>(by cases e),fun e=>absurd e h⟩ hn p q c d W h1 h2⟩⟩
theorem jan{x:RFm}(hn:x.l.length<=1000000)(W:World)(p:En)(c:Nat)(q:En)(d:Nat)(h1:UAt 34 W p x.l)(h2:UAt 34 W q x.l):Calls prog 14 #[RV x p c,RV x q d] W (qa true W) :=
 qbm ⟨fun _=>rfl,fun _=>rfl⟩ hn p q c d W h1 h2
end Go.Proofs.YtdiecekagiledaaGreatDoor
