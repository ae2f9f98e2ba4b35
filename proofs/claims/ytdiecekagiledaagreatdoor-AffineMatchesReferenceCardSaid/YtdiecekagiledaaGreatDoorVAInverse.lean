/- Package affine: Covariance, at valid forms and sources, where nothing is too. -/
import Derived.Test.YtdiecekagiledaaGreatDoorVALine
set_option linter.unusedSimpArgs false
set_option linter.unusedVariables false
set_option maxRecDepth 100000
set_option maxHeartbeats 16000000
namespace Go.Proofs.YtdiecekagiledaaGreatDoor
open Go Go.RowKit Go.Lib Go.Shelf Go.Proofs.Tryz
attribute [local go_sem] yg
structure SrcsOk(ss:List Trm):Prop where
 few:ss.length<=128
 src:SrcOk ss
 unit:∀ p,p∈ss->0<=p.c/\p.c<=1
 dig:∀ p,p∈ss->QDig 200 p.c
def zbd(ss l:List Trm):Prop:=∀ t,t∈l->∃ i,i<ss.length/\(trD ss i).s=t.s
structure CovF(a b ss:List Trm):Prop where
 m1:∀ k,k<ss.length->MF (cf a (trD ss k).s) (cf b (trD ss k).s)
 m2:∀ k,k<ss.length->MF (cf a (trD ss k).s*cf b (trD ss k).s) (trD ss k).c
 s:∀ k,k<ss.length->AF (vB a b ss k) (cf a (trD ss k).s*cf b (trD ss k).s*(trD ss k).c)
theorem qcf{a b ss:List Trm}{k:Nat}(h:ky a (trD ss k).s=none\/ky b (trD ss k).s=none):vB a b ss (k+1)=vB a b ss k:=by
 have hz:cf a (trD ss k).s=0\/cf b (trD ss k).s=0:=h.imp (fun e=>by unfold cf;rw[e];rfl) (fun e=>by unfold cf;rw[e];rfl);show vB a b ss k+cf a (trD ss k).s*cf b (trD ss k).s*(trD ss k).c=_;rcases hz with h|h<;>rw[h]<;>grind
theorem kcs{ss:List Trm}(h:∀ p,p∈ss->0<=p.c/\p.c<=1):∀ i,i<ss.length->zaR 0 1 (some (trD ss i).c)=true:=fun i hi=>by
 have:=h _ (yk hi);show(decide (0<=(trD ss i).c)&&decide ((trD ss i).c<=1))=true;rw[decide_eq_true this.1,decide_eq_true this.2];rfl
theorem qc1(x:RT)(t:Trm)(bt:Nat)(w:World)(rt:Row w bt (oT (t.s:Int) t.c)):Calls prog 81 #[uV x,.pointer (some ⟨bt,0,none⟩)] w (qa (x.s==(t.s:Int)) w):=by
 have hB:=Ab w;unfold qa uV;have st:=RF3 rt;go_enter func81,ntmps81;go_wp2;go_ret;exact⟨rfl,BW⟩
theorem yc1{a b:Frm}{ss:List Trm}(h:CovF a.t b.t ss)(hv:SrcsOk ss)(hkn:zbd ss (a.t++b.t))(oa:a.Ok)(ob:b.Ok)(la:a.t.length<=64)(lb:b.t.length<=64)(ps:En)(cs_:Nat)(pa:En)(ca:Nat)(pb:En)(cb:Nat)(bs ba bb:Nat)(w:World)(rq:Row w bs (.cells #[.slice ps ss.length cs_] 61))(ra:Row w ba (oF a.c a.r pa a.t.length ca))(rb:Row w bb (oF b.c b.r pb b.t.length cb))(hps:TAt 60 w ps ss)(hpa:TAt 34 w pa a.t)(hpb:TAt 34 w pb b.t)(he:Env w):Calls prog 75 #[.pointer (some ⟨bs,0,none⟩),.pointer (some ⟨ba,0,none⟩),.pointer (some ⟨bb,0,none⟩)] w (vc2 (fun q=>vB a.t b.t ss ss.length=q) w):=by
 have hB:=Ab w;have HPs:=hid hps;have HPa:=hid hpa;have HPb:=hid hpb;have FN:=ja5;obtain⟨m,hm⟩:∃ m,ss.length=m:=⟨_,rfl⟩
 have hm64:m<=128:=hm ▸ hv.few;have hmI:(m:Int)<=128:=oo
 have MA:=fun W (h1:TAt 60 W ps ss)=>zc1 ps m cs_ (l:=kN ss) (by rw[kf];exact hm) oo W h1
 rw[decide_eq_true (qaY hv.src)]at MA;have MW:=fun W (h1:TAt 60 W ps ss) (H:Env W)=>qb6 (l:=kN ss) (fun _=>false) 76 (enters_of func76 kr9 rfl) ps m cs_ (by rw[kf];exact hm) oo W h1 (fun i hi X hX=>by have hi2:i<ss.length:=oo;have h9:=qdc (uD (kN ss) i) (o:=some (trD ss i).c) (by rw[yQ hi2];exact RK.of (hv.dig _ (yk hi2))) X (H.below hX);rw[kcs hv.unit i hi2]at h9;exact h9)
 rw[decide_eq_false (by simp)]at MW;have MK:=fun(t:Trm) bt W (hk:∃ i,i<ss.length/\(trD ss i).s=t.s) (rt:Row W bt (oT (t.s:Int) t.c)) (h1:TAt 60 W ps ss)=>kbI (l:=kN ss) (fun i=>(uD (kN ss) i).s==(t.s:Int)) 81 (.pointer (some ⟨bt,0,none⟩)) (enters_of func81 kr9 rfl) ps m cs_ (by rw[kf];exact hm) oo W h1 (fun i hi X hX=>qc1 _ t bt X (Ae rt hX))
 have MKT:∀(t:Trm) (bt:Nat) (W:World),(∃ i,i<ss.length/\(trD ss i).s=t.s)->Row W bt (oT (t.s:Int) t.c)->TAt 60 W ps ss->Calls prog 79 #[.slice ps m cs_,.func (.func 81) #[] #[.pointer (some ⟨bt,0,none⟩)]] W (qa true W):=fun t bt W hk rt h1=>by have h9:=MK t bt W hk rt h1;rw[decide_eq_true (by obtain⟨i,hi,e⟩:=hk;exact⟨i,oo,by rw[yQ hi];simp[Trm.raw,e]⟩)]at h9;exact h9
 have MC:=fun sb W rs (h1:TAt 34 W pa a.t) (h2:TAt 34 W pb b.t)=>kcx (a:=a.t) (b:=b.t) oo oo sb pa ca pb cb W rs h1 h2
 have FA_:=fun id W (h1:TAt 34 W pa a.t) (H:Env W)=>vcx oa.src id pa a.t.length ca rfl oo W h1 H
 have FB_:=fun id W (h1:TAt 34 W pb b.t) (H:Env W)=>vcx ob.src id pb b.t.length cb rfl oo W h1 H
 have K1:=fun k (hk:k<ss.length) W (H:Env W)=>zbF (h.m1 k hk) W H
 have K2:=fun k (hk:k<ss.length) W (H:Env W)=>zbF (h.m2 k hk) W H
 have K3:∀ k,k<ss.length->∀ W,Env W->Calls prog 59 #[Q (vB a.t b.t ss k),Q (cf a.t (trD ss k).s*cf b.t (trD ss k).s*(trD ss k).c)] W (QIs (vB a.t b.t ss (k+1)) W):=fun k hk W H=>vbu (h.s k hk) W H
 have M0:=fun W (H:Env W)=>qA (n:=0) dd zG W H
 rw[show(0:Rat)=vB a.t b.t ss 0 from rfl]at M0;have SK:=@qcf a.t b.t ss;unfold qa at MA MW MKT;unfold kbp at FA_ FB_;unfold QIs at K1 K2 K3 M0;unfold qaA at MC;unfold vc2;have HKN:=hid hkn;generalize hLL:a.t++b.t=L at *;have hL2:L.length<=200:=by rw[<- hLL,AQ];omega
 have ER:vB a.t b.t ss ss.length=vB a.t b.t ss m:=by rw[hm]
 rw[ER];unfold Q at *;rw[hm]at K1 K2 K3 rq;have HM:=hid hm;clear hLL MK hps hpa hpb hkn h hv hm ER oa ob;have sq:=RF1 rq;have sa:=RF5 ra;have sb:=RF5 rb;go_enter func75,ntmps75;go_wp2_with fail;have dq_o:bs<w.heap.size:=oo
 have da_o:ba<w.heap.size:=oo
 have db_o:bb<w.heap.size:=oo
 have d0_o:w.heap.size<=w.heap.size:=by have:=hB.size;omega
 have sB:=hB.size;refine za (kp2 hB ra rb fun X=>Row X bs (.cells #[.slice ps m cs_] 61)/\Row X w.heap.size oR0) ⟨BW,RW8,RW8,RW8,RW8⟩ ?_;unfold kp2;clear rq sq ra sa rb sb hB sB;rintro V1⟨hB,ra,rb,rq,ro⟩;have sq:=RF1 rq;have sa:=RF5 ra;have sb:=RF5 rb;have so:=vd ro;refine(MA _ (Ai HPs.out hB)).mono ?_;rintro e W2⟨rfl,h1⟩;have stp:=St4 hB h1 rq ra rb ro;clear hB h1 rq sq ra sa rb sb ro so;obtain⟨hB,rq,ra,rb,ro⟩:=stp;have sq:=RF1 rq;have sa:=RF5 ra;have sb:=RF5 rb;have so:=vd ro;go_wp2_with fail;refine(MW _ (Ai HPs.out hB) (he.below hB)).mono ?_;rintro e W3⟨rfl,h1⟩;have stp:=St4 hB h1 rq ra rb ro;clear hB h1 rq sq ra sa rb sb ro so;obtain⟨hB,rq,ra,rb,ro⟩:=stp;have sq:=RF1 rq;have sa:=RF5 ra;have sb:=RF5 rb;have so:=vd ro;go_wp2_with fail;refine(vn _).mono ?_;rintro e W4⟨rfl,h1⟩;have stp:=St4 hB h1 rq ra rb ro;clear hB h1 rq sq ra sa rb sb ro so;obtain⟨hB,rq,ra,rb,ro⟩:=stp;have sq:=RF1 rq;have sa:=RF5 ra;have sb:=RF5 rb;have so:=vd ro;go_wp2_with fail;have do_b1:w.heap.size<W4.heap.size:=oo
 have sB:=hB.size;refine za (kp4 hB rq ra rb ro fun X=>Row X W4.heap.size (.cells #[.slice pa a.t.length ca,.slice pb b.t.length cb] 24)) ⟨BW,RW8,RW8,RW8,RW8,RW8⟩ ?_;unfold kp4;clear rq sq ra sa rb sb ro so hB sB;rintro V5⟨hB,rq,ra,rb,ro,rb1⟩;have sq:=RF1 rq;have sa:=RF5 ra;have sb:=RF5 rb;have so:=vd ro;have sb1:=RF2 rb1;refine(MC _ _ rb1 (Ai HPa.out hB) (Ai HPb.out hB)).mono ?_;rintro e W6⟨pc,cc,hTc,rfl,h1⟩;have stp:=St5 hB h1 rq ra rb ro rb1;clear hB h1 rq sq ra sa rb sb ro so rb1 sb1;obtain⟨hB,rq,ra,rb,ro,rb1⟩:=stp;have sq:=RF1 rq;have sa:=RF5 ra;have sb:=RF5 rb;have so:=vd ro;have sb1:=RF2 rb1;go_wp2_with fail;clear rb1 sb1 sq sa sb so;go_loopw[35] (fun v35 wr=>∃(i:Nat),v35=.int .i64 (i:Int)/\i<=L.length/\TAt 34 wr pc L/\Aa w wr/\Row wr bs (.cells #[.slice ps m cs_] 61)/\Row wr ba (oF a.c a.r pa a.t.length ca)/\Row wr bb (oF b.c b.r pb b.t.length cb)/\Row wr w.heap.size oR0) (fun v35 _=>(L.length-RowKit.intOf v35).toNat)
 case atStart=>exact⟨0,rfl,oo,hTc,hB,rq,ra,rb,ro⟩
 case round =>
  clear hB hTc rq ra rb ro;obtain⟨i,rfl,hin,hTc,hB,rq,ra,rb,ro⟩:=hrel;obtain⟨wA,rfl⟩:∃ W,W=wr:=⟨_,rfl⟩
  have sq:=RF1 rq;have sa:=RF5 ra;have sb:=RF5 rb;have so:=vd ro;rcases AJ i L.length with hlt|hge
  ·have hlI:(i:Int)<(L.length:Int):=oo
   obtain⟨t,ht⟩:∃ t,t=trD L i:=⟨_,rfl⟩
   have hk:=HKN.out t (by rw[ht];exact yk hlt);have HK:=hid hk;clear hk;obtain⟨g,gcur,rfl,rg,g0,g1,g2⟩:=Cd hTc hlt;rw[<- ht]at g0 g1 g2;clear ht;have Fg:=Eo rg g0 g1 g2
   have sg:=Fg _ rg;go_wp2_with fail;have do_t:w.heap.size<wA.heap.size:=oo
   have sB:=hB.size;refine za (fun X=>Aa w X/\Row X bs (.cells #[.slice ps m cs_] 61)/\Row X ba (oF a.c a.r pa a.t.length ca)/\Row X bb (oF b.c b.r pb b.t.length cb)/\Row X w.heap.size oR0/\Row X g (.cells gcur 34)/\Row X wA.heap.size (oT (t.s:Int) t.c)/\TAt 34 X (some ⟨g,0,none⟩) L) ⟨BW,RW8,RW8,RW8,RW8,RW8,RW8,TW⟩ ?_;clear rq sq ra sa rb sb ro so rg sg hB sB hTc;rintro V7⟨hB,rq,ra,rb,ro,rg,rt,hTc⟩;have sq:=RF1 rq;have sa:=RF5 ra;have sb:=RF5 rb;have so:=vd ro;have sg:=Fg _ rg;have st:=RF3 rt;refine(MKT t _ _ HK.out rt (Ai HPs.out hB)).mono ?_;rintro e W8⟨rfl,h1⟩;replace hTc:=Ai hTc h1;have stp:=St6 hB h1 rq ra rb ro rg rt;clear hB h1 rq sq ra sa rb sb ro so rg sg rt st;obtain⟨hB,rq,ra,rb,ro,rg,rt⟩:=stp;have sq:=RF1 rq;have sa:=RF5 ra;have sb:=RF5 rb;have so:=vd ro;have sg:=Fg _ rg;have st:=RF3 rt;go_wp2_with fail;refine(vn _).mono ?_;rintro e W9⟨rfl,h1⟩;replace hTc:=Ai hTc h1;have stp:=St6 hB h1 rq ra rb ro rg rt;clear hB h1 rq sq ra sa rb sb ro so rg sg rt st;obtain⟨hB,rq,ra,rb,ro,rg,rt⟩:=stp;have sq:=RF1 rq;have sa:=RF5 ra;have sb:=RF5 rb;have so:=vd ro;have sg:=Fg _ rg;have st:=RF3 rt;go_wp2;go_roundw
   case rel=>exact⟨i+1,by go_num,oo,TW,BW,RW8,RW8,RW8,RW8⟩
   case measure=>exact El
  ·obtain rfl:i=L.length:=oo
   clear hTc HKN MKT MC MA MW hge hin;go_wp2_with fail;refine(M0 _ (he.below hB)).mono ?_;rintro e W7⟨rfl,h1⟩;have stp:=St4 hB h1 rq ra rb ro;clear hB h1 rq sq ra sa rb sb ro so;obtain⟨hB,rq,ra,rb,ro⟩:=stp;have sq:=RF1 rq;have sa:=RF5 ra;have sb:=RF5 rb;have so:=vd ro;go_wp2_with fail;have dq_k:bs<W7.heap.size:=oo
   have da_k:ba<W7.heap.size:=oo
   have db_k:bb<W7.heap.size:=oo
   have do_k:w.heap.size<W7.heap.size:=oo
   have d0_k:w.heap.size<=W7.heap.size:=by have:=hB.size;omega
   have sB:=hB.size;refine zi (fun X=>Aa w X/\Row X bs (.cells #[.slice ps m cs_] 61)/\Row X ba (oF a.c a.r pa a.t.length ca)/\Row X bb (oF b.c b.r pb b.t.length cb)/\Row X w.heap.size oR0/\Row X W7.heap.size (oN (vB a.t b.t ss 0))) ⟨BW,RW8,RW8,RW8,RW8,RW8⟩ ?_;clear rq sq ra sa rb sb ro so hB sB;rintro V8⟨hB,rq,ra,rb,ro,rk⟩;have sq:=RF1 rq;have sa:=RF5 ra;have sb:=RF5 rb;have so:=vd ro;have sk:=vd rk;clear sq sa sb so sk;go_loopw[47] (fun v47 wr=>∃(j:Nat),v47=.int .i64 (j:Int)/\j<=m/\Aa w wr/\Row wr bs (.cells #[.slice ps m cs_] 61)/\Row wr ba (oF a.c a.r pa a.t.length ca)/\Row wr bb (oF b.c b.r pb b.t.length cb)/\Row wr w.heap.size oR0/\Row wr W7.heap.size (oN (vB a.t b.t ss j))) (fun v47 _=>(m-RowKit.intOf v47).toNat)
   case atStart=>exact⟨0,rfl,oo,hB,rq,ra,rb,ro,rk⟩
   case round =>
    clear hB rq ra rb ro rk;obtain⟨j,rfl,hjn,hB,rq,ra,rb,ro,rk⟩:=hrel;obtain⟨wB,rfl⟩:∃ W,W=wr:=⟨_,rfl⟩
    have sq:=RF1 rq;have sa:=RF5 ra;have sb:=RF5 rb;have so:=vd ro;have sk:=vd rk;rcases AJ j m with hlt|hge
    ·have hlI:(j:Int)<(m:Int):=oo
     have hlt':j<ss.length:=by rw[HM.out];exact hlt
     have K1:=K1 j hlt;have K2:=K2 j hlt;have K3:=K3 j hlt;have SK:=@SK j;obtain⟨v,hv⟩:∃ v,v=trD ss j:=⟨_,rfl⟩
     rw[<- hv]at K1 K2 K3 SK;have FA_:=FA_ v.s;have FB_:=FB_ v.s;have HSK:=hid SK;clear SK;obtain⟨g,gcur,rfl,rg,g0,g1,g2⟩:=Cd (Ai HPs.out hB) hlt';rw[<- hv]at g0 g1 g2;clear hv;have Fg:=Eo rg g0 g1 g2
     have sg:=Fg _ rg;obtain⟨xa,hxa⟩:∃ x,cf a.t v.s=x:=⟨_,rfl⟩
     obtain⟨xb,hxb⟩:∃ x,cf b.t v.s=x:=⟨_,rfl⟩
     rw[hxa]at K1 K2 K3 FA_;rw[hxb]at K1 K2 K3 FB_;clear hxa hxb;generalize xa*xb*v.c=pz at *;generalize xa*xb=py at *
     cases hla:ky a.t v.s with
     | none =>
      have hia:(ky a.t v.s).isSome=false:=by rw[hla];rfl
      rw[hia]at FA_;have ESK:=hid (HSK.out (.inl hla));clear hla hia K1 K2 K3;generalize (ky b.t v.s).isSome=isb at *;go_wp2_with fail;have do_x:w.heap.size<wB.heap.size:=oo
      have dk_x:W7.heap.size<wB.heap.size:=oo
      have sB:=hB.size;refine za (fun X=>Aa w X/\Row X bs (.cells #[.slice (some ⟨g,0,none⟩) m cs_] 61)/\Row X ba (oF a.c a.r pa a.t.length ca)/\Row X bb (oF b.c b.r pb b.t.length cb)/\Row X w.heap.size oR0/\Row X W7.heap.size (oN (vB a.t b.t ss j))/\Row X g (.cells gcur 60)/\Row X wB.heap.size (.cells #[.int .i64 (v.s:Int),.string (S v.c.num),.string (S (v.c.den:Int))] 60)) ⟨BW,RW8,RW8,RW8,RW8,RW8,RW8,RW8⟩ ?_;clear rq sq ra sa rb sb ro so rk sk rg sg hB sB;rintro V9⟨hB,rq,ra,rb,ro,rk,rg,rx⟩;have sq:=RF1 rq;have sa:=RF5 ra;have sb:=RF5 rb;have so:=vd ro;have sk:=vd rk;have sg:=Fg _ rg;have sx:=RF3 rx;refine(FA_ _ (Ai HPa.out hB) (he.below hB)).mono ?_;rintro e W10⟨rfl,h1⟩;have stp:=St7 hB h1 rq ra rb ro rk rg rx;clear hB h1 rq sq ra sa rb sb ro so rk sk rg sg rx sx;obtain⟨hB,rq,ra,rb,ro,rk,rg,rx⟩:=stp;have sq:=RF1 rq;have sa:=RF5 ra;have sb:=RF5 rb;have so:=vd ro;have sk:=vd rk;have sg:=Fg _ rg;have sx:=RF3 rx;go_wp2_with fail;have do_y:w.heap.size<W10.heap.size:=oo
      have dk_y:W7.heap.size<W10.heap.size:=oo
      have sB:=hB.size;refine za (fun X=>Aa w X/\Row X bs (.cells #[.slice (some ⟨g,0,none⟩) m cs_] 61)/\Row X ba (oF a.c a.r pa a.t.length ca)/\Row X bb (oF b.c b.r pb b.t.length cb)/\Row X w.heap.size oR0/\Row X W7.heap.size (oN (vB a.t b.t ss j))/\Row X g (.cells gcur 60)/\Row X wB.heap.size (.cells #[.int .i64 (v.s:Int),.string (S v.c.num),.string (S (v.c.den:Int))] 60)/\Row X W10.heap.size (oN xa)) ⟨BW,RW8,RW8,RW8,RW8,RW8,RW8,RW8,RW8⟩ ?_;clear rq sq ra sa rb sb ro so rk sk rg sg rx sx hB sB;rintro V11⟨hB,rq,ra,rb,ro,rk,rg,rx,ry⟩;have sq:=RF1 rq;have sa:=RF5 ra;have sb:=RF5 rb;have so:=vd ro;have sk:=vd rk;have sg:=Fg _ rg;have sx:=RF3 rx;have sy:=RF2 ry;refine(FB_ _ (Ai HPb.out hB) (he.below hB)).mono ?_;rintro e W12⟨rfl,h1⟩;have stp:=St8 hB h1 rq ra rb ro rk rg rx ry;clear hB h1 rq sq ra sa rb sb ro so rk sk rg sg rx sx ry sy;obtain⟨hB,rq,ra,rb,ro,rk,rg,rx,ry⟩:=stp;have sq:=RF1 rq;have sa:=RF5 ra;have sb:=RF5 rb;have so:=vd ro;have sk:=vd rk;have sg:=Fg _ rg;have sx:=RF3 rx;have sy:=RF2 ry;go_wp2;go_roundw
      case rel=>exact⟨j+1,by go_num,oo,BW,RW8,RW8,RW8,RW8,by rw[ESK.out];exact RW8⟩
      case measure=>exact El
     | some v1 =>
      have hia:(ky a.t v.s).isSome=true:=by rw[hla];rfl
      rw[hia]at FA_;clear hla hia
      cases hlb:ky b.t v.s with
      | none =>
       have hib:(ky b.t v.s).isSome=false:=by rw[hlb];rfl
       rw[hib]at FB_;have ESK:=hid (HSK.out (.inr hlb));clear hlb hib K1 K2 K3;go_wp2_with fail;have do_x:w.heap.size<wB.heap.size:=oo
       have dk_x:W7.heap.size<wB.heap.size:=oo
       have sB:=hB.size;refine za (fun X=>Aa w X/\Row X bs (.cells #[.slice (some ⟨g,0,none⟩) m cs_] 61)/\Row X ba (oF a.c a.r pa a.t.length ca)/\Row X bb (oF b.c b.r pb b.t.length cb)/\Row X w.heap.size oR0/\Row X W7.heap.size (oN (vB a.t b.t ss j))/\Row X g (.cells gcur 60)/\Row X wB.heap.size (.cells #[.int .i64 (v.s:Int),.string (S v.c.num),.string (S (v.c.den:Int))] 60)) ⟨BW,RW8,RW8,RW8,RW8,RW8,RW8,RW8⟩ ?_;clear rq sq ra sa rb sb ro so rk sk rg sg hB sB;rintro V9⟨hB,rq,ra,rb,ro,rk,rg,rx⟩;have sq:=RF1 rq;have sa:=RF5 ra;have sb:=RF5 rb;have so:=vd ro;have sk:=vd rk;have sg:=Fg _ rg;have sx:=RF3 rx;refine(FA_ _ (Ai HPa.out hB) (he.below hB)).mono ?_;rintro e W10⟨rfl,h1⟩;have stp:=St7 hB h1 rq ra rb ro rk rg rx;clear hB h1 rq sq ra sa rb sb ro so rk sk rg sg rx sx;obtain⟨hB,rq,ra,rb,ro,rk,rg,rx⟩:=stp;have sq:=RF1 rq;have sa:=RF5 ra;have sb:=RF5 rb;have so:=vd ro;have sk:=vd rk;have sg:=Fg _ rg;have sx:=RF3 rx;go_wp2_with fail;have do_y:w.heap.size<W10.heap.size:=oo
       have dk_y:W7.heap.size<W10.heap.size:=oo
       have sB:=hB.size;refine za (fun X=>Aa w X/\Row X bs (.cells #[.slice (some ⟨g,0,none⟩) m cs_] 61)/\Row X ba (oF a.c a.r pa a.t.length ca)/\Row X bb (oF b.c b.r pb b.t.length cb)/\Row X w.heap.size oR0/\Row X W7.heap.size (oN (vB a.t b.t ss j))/\Row X g (.cells gcur 60)/\Row X wB.heap.size (.cells #[.int .i64 (v.s:Int),.string (S v.c.num),.string (S (v.c.den:Int))] 60)/\Row X W10.heap.size (oN xa)) ⟨BW,RW8,RW8,RW8,RW8,RW8,RW8,RW8,RW8⟩ ?_;clear rq sq ra sa rb sb ro so rk sk rg sg rx sx hB sB;rintro V11⟨hB,rq,ra,rb,ro,rk,rg,rx,ry⟩;have sq:=RF1 rq;have sa:=RF5 ra;have sb:=RF5 rb;have so:=vd ro;have sk:=vd rk;have sg:=Fg _ rg;have sx:=RF3 rx;have sy:=RF2 ry;refine(FB_ _ (Ai HPb.out hB) (he.below hB)).mono ?_;rintro e W12⟨rfl,h1⟩;have stp:=St8 hB h1 rq ra rb ro rk rg rx ry;clear hB h1 rq sq ra sa rb sb ro so rk sk rg sg rx sx ry sy;obtain⟨hB,rq,ra,rb,ro,rk,rg,rx,ry⟩:=stp;have sq:=RF1 rq;have sa:=RF5 ra;have sb:=RF5 rb;have so:=vd ro;have sk:=vd rk;have sg:=Fg _ rg;have sx:=RF3 rx;have sy:=RF2 ry;go_wp2;go_roundw
       case rel=>exact⟨j+1,by go_num,oo,BW,RW8,RW8,RW8,RW8,by rw[ESK.out];exact RW8⟩
       case measure=>exact El
      | some v2 =>
       have hib:(ky b.t v.s).isSome=true:=by rw[hlb];rfl
       rw[hib]at FB_;clear hlb hib;go_wp2_with fail;have do_x:w.heap.size<wB.heap.size:=oo
       have dk_x:W7.heap.size<wB.heap.size:=oo
       have sB:=hB.size;refine za (fun X=>Aa w X/\Row X bs (.cells #[.slice (some ⟨g,0,none⟩) m cs_] 61)/\Row X ba (oF a.c a.r pa a.t.length ca)/\Row X bb (oF b.c b.r pb b.t.length cb)/\Row X w.heap.size oR0/\Row X W7.heap.size (oN (vB a.t b.t ss j))/\Row X g (.cells gcur 60)/\Row X wB.heap.size (.cells #[.int .i64 (v.s:Int),.string (S v.c.num),.string (S (v.c.den:Int))] 60)) ⟨BW,RW8,RW8,RW8,RW8,RW8,RW8,RW8⟩ ?_;clear rq sq ra sa rb sb ro so rk sk rg sg hB sB;rintro V9⟨hB,rq,ra,rb,ro,rk,rg,rx⟩;have sq:=RF1 rq;have sa:=RF5 ra;have sb:=RF5 rb;have so:=vd ro;have sk:=vd rk;have sg:=Fg _ rg;have sx:=RF3 rx;refine(FA_ _ (Ai HPa.out hB) (he.below hB)).mono ?_;rintro e W10⟨rfl,h1⟩;have stp:=St7 hB h1 rq ra rb ro rk rg rx;clear hB h1 rq sq ra sa rb sb ro so rk sk rg sg rx sx;obtain⟨hB,rq,ra,rb,ro,rk,rg,rx⟩:=stp;have sq:=RF1 rq;have sa:=RF5 ra;have sb:=RF5 rb;have so:=vd ro;have sk:=vd rk;have sg:=Fg _ rg;have sx:=RF3 rx;go_wp2_with fail;have do_y:w.heap.size<W10.heap.size:=oo
       have dk_y:W7.heap.size<W10.heap.size:=oo
       have sB:=hB.size;refine za (fun X=>Aa w X/\Row X bs (.cells #[.slice (some ⟨g,0,none⟩) m cs_] 61)/\Row X ba (oF a.c a.r pa a.t.length ca)/\Row X bb (oF b.c b.r pb b.t.length cb)/\Row X w.heap.size oR0/\Row X W7.heap.size (oN (vB a.t b.t ss j))/\Row X g (.cells gcur 60)/\Row X wB.heap.size (.cells #[.int .i64 (v.s:Int),.string (S v.c.num),.string (S (v.c.den:Int))] 60)/\Row X W10.heap.size (oN xa)) ⟨BW,RW8,RW8,RW8,RW8,RW8,RW8,RW8,RW8⟩ ?_;clear rq sq ra sa rb sb ro so rk sk rg sg rx sx hB sB;rintro V11⟨hB,rq,ra,rb,ro,rk,rg,rx,ry⟩;have sq:=RF1 rq;have sa:=RF5 ra;have sb:=RF5 rb;have so:=vd ro;have sk:=vd rk;have sg:=Fg _ rg;have sx:=RF3 rx;have sy:=RF2 ry;refine(FB_ _ (Ai HPb.out hB) (he.below hB)).mono ?_;rintro e W12⟨rfl,h1⟩;have stp:=St8 hB h1 rq ra rb ro rk rg rx ry;clear hB h1 rq sq ra sa rb sb ro so rk sk rg sg rx sx ry sy;obtain⟨hB,rq,ra,rb,ro,rk,rg,rx,ry⟩:=stp;have sq:=RF1 rq;have sa:=RF5 ra;have sb:=RF5 rb;have so:=vd ro;have sk:=vd rk;have sg:=Fg _ rg;have sx:=RF3 rx;have sy:=RF2 ry;go_wp2_with fail;have do_z:w.heap.size<W12.heap.size:=oo
       have dk_z:W7.heap.size<W12.heap.size:=oo
       have sB:=hB.size;refine zi (fun X=>Aa w X/\Row X bs (.cells #[.slice (some ⟨g,0,none⟩) m cs_] 61)/\Row X ba (oF a.c a.r pa a.t.length ca)/\Row X bb (oF b.c b.r pb b.t.length cb)/\Row X w.heap.size oR0/\Row X W7.heap.size (oN (vB a.t b.t ss j))/\Row X g (.cells gcur 60)/\Row X wB.heap.size (.cells #[.int .i64 (v.s:Int),.string (S v.c.num),.string (S (v.c.den:Int))] 60)/\Row X W10.heap.size (oN xa)/\Row X W12.heap.size (oN xb)) ⟨BW,RW8,RW8,RW8,RW8,RW8,RW8,RW8,RW8,RW8⟩ ?_;clear rq sq ra sa rb sb ro so rk sk rg sg rx sx ry sy hB sB;rintro V13⟨hB,rq,ra,rb,ro,rk,rg,rx,ry,rz⟩;have sq:=RF1 rq;have sa:=RF5 ra;have sb:=RF5 rb;have so:=vd ro;have sk:=vd rk;have sg:=Fg _ rg;have sx:=RF3 rx;have sy:=RF2 ry;have sz:=RF2 rz;refine qe 9 [.val (Ac (vB a.t b.t ss j)),.val (Ac xa),.val (Ac xb),.val (Ac py),.val (.pointer (some ⟨wB.heap.size,1,none⟩)),.val (Ac v.c),.val (Ac v.c),.val (Ac pz),.val (.agg #[.string (S (vB a.t b.t ss (j+1)).num),.string (S ((vB a.t b.t ss (j+1)).den:Int))])] kr9 kr9 trivial (iC (qi1 fun X h=>vd (Ae rk h)) (iC (qi1 fun X h=>RF2 (Ae ry h)) (iC (qi1 fun X h=>RF2 (Ae rz h)) (iC (qi2 fun X h=>K1 X (he.below (Em hB h))) (iC qi0 (iC (qi1 fun X h=>RF3 (Ae rx h)) (iC qi0 (iC (qi2 fun X h=>K2 X (he.below (Em hB h))) (iC (qi2 fun X h=>K3 X (he.below (Em hB h))) trivial))))))))) ?_
       rintro W h1;clear sq sa sb so sk sg sx sy sz;replace hB:=Em hB h1;replace rq:=Ae rq h1;replace ra:=Ae ra h1;replace rb:=Ae rb h1;replace ro:=Ae ro h1;replace rk:=Ae rk h1;replace rg:=Ae rg h1;replace rx:=Ae rx h1;replace ry:=Ae ry h1;replace rz:=Ae rz h1;clear h1;have sq:=RF1 rq;have sa:=RF5 ra;have sb:=RF5 rb;have so:=vd ro;have sk:=vd rk;have sg:=Fg _ rg;have sx:=RF3 rx;have sy:=RF2 ry;have sz:=RF2 rz;simp only[je,Ah,Ak,Al,AB,AI,AC,AH];go_wp2;go_roundw
       case rel=>exact⟨j+1,by go_num,oo,BW,RW8,RW8,RW8,RW8,RW8⟩
       case measure=>exact El
    ·obtain rfl:m=j:=oo
     clear sq sa sb so sk;have sq:=RF1 rq;have sa:=RF5 ra;have sb:=RF5 rb;have so:=vd ro;have sk:=vd rk;go_wp2_with fail;have sB:=hB.size;refine vc (fun X=>Aa w X/\Row X w.heap.size (oR (vB a.t b.t ss m))) ⟨BW,RW8⟩ ?_;clear rq sq ra sa rb sb ro so rk sk hB sB;rintro V9⟨hB,ro⟩;have so:=vd ro;refine bodyPost_ret (v:=Ac (vB a.t b.t ss m)) ?res rfl ⟨vB a.t b.t ss m,rfl,rfl,hB⟩
     case res=>simp[results,results75,go_sem,so]
def ka0(v:Rat)(w:World)(e:Ending)(w':World):Prop:=e=.returned (.tuple #[Q v,.int .i64 0])/\Aa w w'
theorem qdb{a b:Frm}{ss:List Trm}(h:CovF a.t b.t ss)(hv:SrcsOk ss)(hkn:zbd ss (a.t++b.t))(oa:a.Ok)(ob:b.Ok)(da:FDig 200 a)(db:FDig 200 b)(pa:En)(ca:Nat)(pb:En)(cb:Nat)(ps:En)(cs_:Nat)(w:World)(hpa:TAt 34 w pa a.t)(hpb:TAt 34 w pb b.t)(hps:TAt 60 w ps ss)(he:Env w):Calls prog 29 #[FV a pa ca,FV b pb cb,.slice ps ss.length cs_] w (ka0 (vB a.t b.t ss ss.length) w):=by
 have hB:=Ab w;have HPa:=hid hpa;have HPb:=hid hpb;have HPs:=hid hps;have CF:=fun s W (r:Row W s (.cells #[.string (S a.c.num),.string (S (a.c.den:Int)),.slice pa a.t.length ca,.string (S a.r.num),.string (S (a.r.den:Int)),.string (S b.c.num),.string (S (b.c.den:Int)),.slice pb b.t.length cb,.string (S b.r.num),.string (S (b.r.den:Int))] 26)) (h1:TAt 34 W pa a.t) (h2:TAt 34 W pb b.t) (H:Env W)=>kar 122 (enters_of func122 kr9 rfl) s a b pa pb ca cb W r (fun X hX=>zcN oa da pa ca X (Ai h1 hX) (H.below hX)) (fun X hX=>zcN ob db pb cb X (Ai h2 hX) (H.below hX))
 have CR:=fun bs ba bb W (rq:Row W bs (.cells #[.slice ps ss.length cs_] 61)) (ra:Row W ba (oF a.c a.r pa a.t.length ca)) (rb:Row W bb (oF b.c b.r pb b.t.length cb)) (h0:TAt 60 W ps ss) (h1:TAt 34 W pa a.t) (h2:TAt 34 W pb b.t) (H:Env W)=>yc1 h hv hkn oa ob oa.few ob.few ps cs_ pa ca pb cb bs ba bb W rq ra rb h0 h1 h2 H
 generalize vB a.t b.t ss ss.length=v at *;unfold ka0;unfold FV Q;clear hpa hpb hps h hv hkn oa ob da db;go_enter func29,ntmps29;go_wp2_with fail;have d0_o:w.heap.size<=w.heap.size+1+1+1:=by have:=hB.size;omega
 have sB:=hB.size;refine za (fun X=>Aa w X/\Row X w.heap.size (oF a.c a.r pa a.t.length ca)/\Row X (w.heap.size+1) (oF b.c b.r pb b.t.length cb)/\Row X (w.heap.size+1+1) (.cells #[.slice ps ss.length cs_] 61)/\Row X (w.heap.size+1+1+1) oR0/\Row X (w.heap.size+1+1+1+1) (.cells #[.string (S a.c.num),.string (S (a.c.den:Int)),.slice pa a.t.length ca,.string (S a.r.num),.string (S (a.r.den:Int)),.string (S b.c.num),.string (S (b.c.den:Int)),.slice pb b.t.length cb,.string (S b.r.num),.string (S (b.r.den:Int))] 26)) ⟨BW,RW8,RW8,RW8,RW8,RW8⟩ ?_;clear hB sB;rintro V1⟨hB,ra,rb,rq,ro,rb4⟩;have sa:=RF5 ra;have sb:=RF5 rb;have sq:=RF1 rq;have so:=vd ro;have Fb4:∀ X,Row X (w.heap.size+1+1+1+1) (.cells #[.string (S a.c.num),.string (S (a.c.den:Int)),.slice pa a.t.length ca,.string (S a.r.num),.string (S (a.r.den:Int)),.string (S b.c.num),.string (S (b.c.den:Int)),.slice pb b.t.length cb,.string (S b.r.num),.string (S (b.r.den:Int))] 26)->(w.heap.size+1+1+1+1<X.heap.size/\X.cell? ⟨w.heap.size+1+1+1+1,0,none⟩=some (.string (S a.c.num))/\X.cell? ⟨w.heap.size+1+1+1+1,1,none⟩=some (.string (S (a.c.den:Int)))/\X.cell? ⟨w.heap.size+1+1+1+1,2,none⟩=some (.slice pa a.t.length ca)/\X.cell? ⟨w.heap.size+1+1+1+1,3,none⟩=some (.string (S a.r.num))/\X.cell? ⟨w.heap.size+1+1+1+1,4,none⟩=some (.string (S (a.r.den:Int)))/\X.cell? ⟨w.heap.size+1+1+1+1,5,none⟩=some (.string (S b.c.num))/\X.cell? ⟨w.heap.size+1+1+1+1,6,none⟩=some (.string (S (b.c.den:Int)))/\X.cell? ⟨w.heap.size+1+1+1+1,7,none⟩=some (.slice pb b.t.length cb)/\X.cell? ⟨w.heap.size+1+1+1+1,8,none⟩=some (.string (S b.r.num))/\X.cell? ⟨w.heap.size+1+1+1+1,9,none⟩=some (.string (S (b.r.den:Int)))):=fun X h=>⟨h.1,Af h 0 rfl,Af h 1 rfl,Af h 2 rfl,Af h 3 rfl,Af h 4 rfl,Af h 5 rfl,Af h 6 rfl,Af h 7 rfl,Af h 8 rfl,Af h 9 rfl⟩
 have sb4:=Fb4 _ rb4;refine(va1 75 _ _ _ (fun q=>v=q) _ (enters_of func75 kr9 rfl) (fun X h=>CF _ _ (Ae rb4 h) (Ai HPa.out (Em hB h)) (Ai HPb.out (Em hB h)) (he.below (Em hB h))) (fun X h=>CR _ _ _ _ (Ae rq h) (Ae ra h) (Ae rb h) (Ai HPs.out (Em hB h)) (Ai HPa.out (Em hB h)) (Ai HPb.out (Em hB h)) (he.below (Em hB h)))).mono ?_;rintro e W2⟨_,rfl,rfl,h1⟩;have stp:=St5 hB h1 ra rb rq ro rb4;clear hB h1 ra sa rb sb rq sq ro so rb4 sb4;obtain⟨hB,ra,rb,rq,ro,rb4⟩:=stp;have sa:=RF5 ra;have sb:=RF5 rb;have sq:=RF1 rq;have so:=vd ro;have sb4:=Fb4 _ rb4;unfold Q;go_wp2_with fail;clear Fb4;have sB:=hB.size;refine vc (fun X=>Aa w X/\Row X (w.heap.size+1+1+1) (oR v)) ⟨BW,RW8⟩ ?_;clear ra sa rb sb rq sq ro so rb4 sb4 hB sB;rintro V3⟨hB,ro⟩;have so:=vd ro;refine bodyPost_ret (v:=.tuple #[Ac v,.int .i64 0]) ?res rfl ⟨rfl,hB⟩
 case res=>simp[results,results29,go_sem,so]
def vcJ(a:Frm):Frm:=zax (-1/((yh a).lo*(yh a).hi)) (4/((yh a).lo+(yh a).hi)) (1/(yh a).lo+1/(yh a).hi) a
structure InvF(a:Frm):Prop where
 r:RangeF a
 pos:0<(yh a).lo
 le:(yh a).lo<=(yh a).hi
 dl:QDig 200 (yh a).lo
 dh:QDig 200 (yh a).hi
 lh:MF (yh a).lo (yh a).hi
 s:DF (-1) ((yh a).lo*(yh a).hi)
 sm:AF (yh a).lo (yh a).hi
 u:DF 4 ((yh a).lo+(yh a).hi)
 v1:DF 1 (yh a).lo
 v2:DF 1 (yh a).hi
 v:AF (1/(yh a).lo) (1/(yh a).hi)
 ln:LineF (-1/((yh a).lo*(yh a).hi)) (4/((yh a).lo+(yh a).hi)) (1/(yh a).lo+1/(yh a).hi) a
theorem jc2{a:Frm}(h:InvF a)(oa:a.Ok)(pa:En)(ca:Nat)(ba:Nat)(w:World)(ra:Row w ba (oF a.c a.r pa a.t.length ca))(hpa:TAt 34 w pa a.t)(he:Env w):Calls prog 69 #[.pointer (some ⟨ba,0,none⟩)] w (vb9 (fun g=>vcJ a=g) w):=by
 have hB:=Ab w;have HPa:=hid hpa;have FN:=ja5;have MR:=fun W (h1:TAt 34 W pa a.t) (H:Env W)=>ybO oa h.r (Bb oa.few dd) pa ca W h1 H
 have MI:=fun W=>jbO (yh a) W
 have MH:=fun W (H:Env W)=>zaG h.dh W H
 have ML:=fun W (H:Env W)=>zaG h.dl W H
 have gh:¬ zE (yh a).hi 0<0:=fun e=>by have:=kbe.1 e;have:=h.pos;have:=h.le;grind
 have gl:0<zE (yh a).lo 0:=zcA.2 h.pos;have W1:=fun W (H:Env W)=>qA (n:=1) dd kaf W H
 have Wm:=fun W (H:Env W)=>qA (n := -1) dd zbc W H
 have W4_:=fun W (H:Env W)=>qA (n:=4) dd vcv W H
 have K1:=fun W (H:Env W)=>zbF h.lh W H
 have K2:=fun W (H:Env W)=>vcm h.s W H
 have K3:=fun W (H:Env W)=>vbu h.sm W H
 have K4:=fun W (H:Env W)=>vcm h.u W H
 have K5:=fun W (H:Env W)=>vcm h.v1 W H
 have K6:=fun W (H:Env W)=>vcm h.v2 W H
 have K7:=fun W (H:Env W)=>vbu h.v W H
 have KL:=fun W (h1:TAt 34 W pa a.t) (H:Env W)=>FIs.say (ycM h.ln oa h.r.rad.dig pa ca W h1 H)
 unfold vcJ vb9;unfold zcL at MR;unfold jca at MI;unfold jB at MH ML;unfold FV I at *;unfold QIs at W1 Wm W4_ K1 K2 K3 K4 K5 K6 K7;generalize zE (yh a).hi 0=gh1 at *;generalize zE (yh a).lo 0=gl1 at *;generalize (yh a).lo=l at *;generalize (yh a).hi=hh at *;generalize zax (-1/(l*hh)) (4/(l+hh)) (1/l+1/hh) a=G at *;generalize -1/(l*hh)=slo at *;generalize 4/(l+hh)=uu at *;generalize 1/l+1/hh=vv at *;generalize 1/l=v1 at *;generalize 1/hh=v2 at *;generalize l*hh=plh at *;generalize l+hh=psm at *;unfold Q at *;generalize (-1:Rat)=om at *;generalize (4:Rat)=four at *;generalize (1:Rat)=one at *;clear hpa h oa;have sa:=RF5 ra;go_enter func69,ntmps69;go_wp2_with fail;have da_o:ba<w.heap.size:=oo
 have d0_o:w.heap.size<=w.heap.size:=by have:=hB.size;omega
 have sB:=hB.size;refine za (kp1 hB ra fun X=>Row X w.heap.size oF0) ⟨BW,RW8,RW8⟩ ?_;unfold kp1;clear ra sa hB sB;rintro V1⟨hB,ra,ro⟩;have sa:=RF5 ra;have so:=kd ro;refine(MR _ (Ai HPa.out hB) (he.below hB)).mono ?_;rintro e W2⟨rfl,h1⟩;have stp:=St2 hB h1 ra ro;clear hB h1 ra sa ro so;obtain⟨hB,ra,ro⟩:=stp;have sa:=RF5 ra;have so:=kd ro;go_wp2_with fail;refine(MI _).mono ?_;rintro e W3⟨rfl,h1⟩;have stp:=St2 hB h1 ra ro;clear hB h1 ra sa ro so;obtain⟨hB,ra,ro⟩:=stp;have sa:=RF5 ra;have so:=kd ro;go_upto_region 2 with fail;have da_r:ba<W3.heap.size:=oo
 have do_r:w.heap.size<W3.heap.size:=oo
 have d0_r:w.heap.size<=W3.heap.size:=by have:=hB.size;omega
 have sB:=hB.size;refine zi (kp2 hB ra ro fun X=>Row X W3.heap.size (oI l hh)) ⟨BW,RW8,RW8,RW8⟩ ?_;unfold kp2;clear ra sa ro so hB sB;rintro V4⟨hB,ra,ro,rr⟩;have sa:=RF5 ra;have so:=kd ro;have sr:=kn rr;have l_a:=ra.1;have l_o:=ro.1;have l_r:=rr.1;have l_W:=hB.size;refine Code.wp_mono (Q:=fun ex ac wx=>ex=.normal/\∃(vl vh:Nat) (u7 u8 u9 u10 u11 u12 u13 u14 u15 u16 u17:Value),ac={ tmps:=#[.pointer (some ⟨ba,0,none⟩),.pointer (some ⟨w.heap.size,0,none⟩),.pointer (some ⟨W3.heap.size,0,none⟩),.pointer (some ⟨vl,0,none⟩),.pointer (some ⟨vh,0,none⟩),undef,undef,u7,u8,u9,u10,u11,u12,u13,u14,u15,u16,u17,undef,undef,undef,undef,undef,undef,undef,undef,undef,undef,undef,undef,undef,undef,undef,undef,undef,undef,undef,undef,undef,undef,undef,undef,undef,undef,undef,undef,undef,undef,undef,undef,undef,undef,undef,undef,undef,undef,undef,undef,undef,undef,undef,undef,undef],defers:=[] }/\Aa w wx/\Row wx ba (oF a.c a.r pa a.t.length ca)/\Row wx w.heap.size oF0/\Row wx W3.heap.size (oI l hh)/\Row wx vl (oN l)/\V4.heap.size<=vl/\Row wx vh (oN hh)/\V4.heap.size<=vh/\vl≠vh) ?rest ?first
 case first =>
  have sB:=hB.size;have KK:∀ X,Row X W3.heap.size (oI l hh)->(X.cell? ⟨W3.heap.size,0,none⟩=some (.string (S l.num))/\X.cell? ⟨W3.heap.size,1,none⟩=some (.string (S (l.den:Int)))/\X.cell? ⟨W3.heap.size,2,none⟩=some (.string (S hh.num))/\X.cell? ⟨W3.heap.size,3,none⟩=some (.string (S (hh.den:Int)))):=fun X hr=>⟨Af hr 0 rfl,Af hr 1 rfl,Af hr 2 rfl,Af hr 3 rfl⟩
  clear sa so sr;go_region_held3 (fun X=>X.cell? ⟨W3.heap.size,0,none⟩=some (.string (S l.num))/\X.cell? ⟨W3.heap.size,1,none⟩=some (.string (S (l.den:Int)))/\X.cell? ⟨W3.heap.size,2,none⟩=some (.string (S hh.num))/\X.cell? ⟨W3.heap.size,3,none⟩=some (.string (S (hh.den:Int)))) (first|exact KK _ RW8) (first
      | fail)
  all_goals (refine⟨rfl,_,_,_,_,_,_,_,_,_,_,_,_,_,rfl,?_,?_,?_,?_,?_,?_,?_,?_,?_⟩)
  all_goals first|omega|((repeat(first|(with_reducible assumption)|(with_reducible exact Au _ _)|(with_reducible refine Below.drew ?_)|(with_reducible refine ze ?_ _)|(with_reducible refine Below.alloc ?_ Ek _)|(with_reducible refine Below.setCell ?_ Ek _)));done)|((repeat(first|(with_reducible assumption)|(with_reducible exact jg Ek)|(with_reducible refine AX ?_)|(with_reducible refine Ck ?_ _)|(with_reducible refine AN ?_ _)|(with_reducible apply Cv)|(with_reducible apply Bz)|(with_reducible refine Ba ?_ _ Ek)));done)|(simp;done)|(simp;omega)
 case rest =>
  clear hB ra ro rr sa so sr;rintro ex ac wx⟨rfl,vl,vh,u7,u8,u9,u10,u11,u12,u13,u14,u15,u16,u17,rfl,hB,ra,ro,rr,rl,hvl,rh,hvh,nl_h⟩;have da_l:ba<vl:=oo
  have da_h:ba<vh:=oo
  have do_l:w.heap.size<vl:=oo
  have do_h:w.heap.size<vh:=oo
  have dr_l:W3.heap.size<vl:=oo
  have dr_h:W3.heap.size<vh:=oo
  have d0_l:w.heap.size<=vl:=oo
  have d0_h:w.heap.size<=vh:=oo
  have sa:=RF5 ra;have so:=kd ro;have sr:=kn rr;have sl:=RF2 rl;have sh:=RF2 rh;go_wp2_with fail;clear rr sr;refine(MH _ (he.below hB)).mono ?_;rintro e W6⟨rfl,h1⟩;have stp:=St4 hB h1 ra ro rl rh;clear hB h1 ra sa ro so rl sl rh sh;obtain⟨hB,ra,ro,rl,rh⟩:=stp;have sa:=RF5 ra;have so:=kd ro;have sl:=RF2 rl;have sh:=RF2 rh;go_wp2_with fail;refine(ML _ (he.below hB)).mono ?_;rintro e W7⟨rfl,h1⟩;have stp:=St4 hB h1 ra ro rl rh;clear hB h1 ra sa ro so rl sl rh sh;obtain⟨hB,ra,ro,rl,rh⟩:=stp;have sa:=RF5 ra;have so:=kd ro;have sl:=RF2 rl;have sh:=RF2 rh;go_wp2_with fail;refine(vn _).mono ?_;rintro e W8⟨rfl,h1⟩;have stp:=St4 hB h1 ra ro rl rh;clear hB h1 ra sa ro so rl sl rh sh;obtain⟨hB,ra,ro,rl,rh⟩:=stp;have sa:=RF5 ra;have so:=kd ro;have sl:=RF2 rl;have sh:=RF2 rh;go_wp2_with fail;refine(W1 _ (he.below hB)).mono ?_;rintro e W9⟨rfl,h1⟩;have stp:=St4 hB h1 ra ro rl rh;clear hB h1 ra sa ro so rl sl rh sh;obtain⟨hB,ra,ro,rl,rh⟩:=stp;have sa:=RF5 ra;have so:=kd ro;have sl:=RF2 rl;have sh:=RF2 rh;go_wp2_with fail;have da_k:ba<W9.heap.size:=oo
  have do_k:w.heap.size<W9.heap.size:=oo
  have dl_k:vl<W9.heap.size:=oo
  have dh_k:vh<W9.heap.size:=oo
  have d0_k:w.heap.size<=W9.heap.size:=by have:=hB.size;omega
  have sB:=hB.size;refine zi (kp2 hB ra ro fun X=>Row X vl (oN l)/\Row X vh (oN hh)/\Row X W9.heap.size (oN one)) ⟨BW,RW8,RW8,RW8,RW8,RW8⟩ ?_;unfold kp2;clear ra sa ro so rl sl rh sh hB sB;rintro V10⟨hB,ra,ro,rl,rh,rk⟩;have sa:=RF5 ra;have so:=kd ro;have sl:=RF2 rl;have sh:=RF2 rh;have sk:=vd rk;refine qe 20 [.val (Ac om),.val (Ac l),.val (Ac hh),.val (Ac plh),.val (Ac slo),.val (Ac four),.val (Ac l),.val (Ac hh),.val (Ac psm),.val (Ac uu),.val (Ac one),.val (Ac l),.val (Ac v1),.val (Ac one),.val (Ac hh),.val (Ac v2),.val (Ac vv),.val (.agg #[.string (S slo.num),.string (S (slo.den:Int)),.string (S uu.num),.string (S (uu.den:Int)),.string (S vv.num),.string (S (vv.den:Int))]),.val (.agg #[.string (S a.c.num),.string (S (a.c.den:Int)),.slice pa a.t.length ca,.string (S a.r.num),.string (S (a.r.den:Int))]),.say (SayF G)] kr9 kr9 ⟨SayF.mono _,trivial⟩ (iC (qi2 fun X h=>Wm X (he.below (Em hB h))) (iC (qi1 fun X h=>RF2 (Ae rl h)) (iC (qi1 fun X h=>RF2 (Ae rh h)) (iC (qi2 fun X h=>K1 X (he.below (Em hB h))) (iC (qi2 fun X h=>K2 X (he.below (Em hB h))) (iC (qi2 fun X h=>W4_ X (he.below (Em hB h))) (iC (qi1 fun X h=>RF2 (Ae rl h)) (iC (qi1 fun X h=>RF2 (Ae rh h)) (iC (qi2 fun X h=>K3 X (he.below (Em hB h))) (iC (qi2 fun X h=>K4 X (he.below (Em hB h))) (iC (qi1 fun X h=>vd (Ae rk h)) (iC (qi1 fun X h=>RF2 (Ae rl h)) (iC (qi2 fun X h=>K5 X (he.below (Em hB h))) (iC (qi1 fun X h=>vd (Ae rk h)) (iC (qi1 fun X h=>RF2 (Ae rh h)) (iC (qi2 fun X h=>K6 X (he.below (Em hB h))) (iC (qi2 fun X h=>K7 X (he.below (Em hB h))) (iC qi0 (iC (qi1 fun X h=>RF5 (Ae ra h)) (iC (qi3 fun X h=>KL X (Ai HPa.out (Em hB h)) (he.below (Em hB h))) trivial)))))))))))))))))))) ?_
  rintro W h1;have stp:=St5 hB h1 ra ro rl rh rk;clear hB h1 ra sa ro so rl sl rh sh rk sk;obtain⟨hB,ra,ro,rl,rh,rk⟩:=stp;have sa:=RF5 ra;have so:=kd ro;have sl:=RF2 rl;have sh:=RF2 rh;have sk:=vd rk;simp only[je,Ah,Ak,Al,AB,AI,AC,AH];rintro _⟨pg,cg,rfl,hT⟩;go_wp2_with fail;have sB:=hB.size;refine vc (fun X=>Aa w X/\Row X w.heap.size (oF G.c G.r pg G.t.length cg)/\TAt 34 X pg G.t) ⟨BW,RW8,TW⟩ ?_;clear ra sa ro so rl sl rh sh rk sk hB sB hT;rintro V11⟨hB,ro,hT⟩;have so:=kd ro;refine bodyPost_ret (v:=.agg #[.string (S G.c.num),.string (S (G.c.den:Int)),.slice pg G.t.length cg,.string (S G.r.num),.string (S (G.r.den:Int))]) ?res rfl ⟨G,pg,cg,rfl,hT,rfl,hB⟩
  case res=>simp[results,results69,go_sem,so]
theorem vcb{a:Frm}(h:InvF a)(oa:a.Ok)(pa:En)(ca:Nat)(w:World)(hpa:TAt 34 w pa a.t)(he:Env w):Calls prog 28 #[FV a pa ca] w (FRes (vcJ a) w):=by
 have hB:=Ab w;have HPa:=hid hpa;have da:=h.r.rad.dig;have CF:=fun s W (r:Row W s (oF a.c a.r pa a.t.length ca)) (h1:TAt 34 W pa a.t) (H:Env W)=>yR 117 (enters_of func117 kr9 rfl) s a pa ca W r (fun X hX=>qbz oa da pa ca X (Ai h1 hX) (H.below hX))
 have CR:=fun ba W (ra:Row W ba (oF a.c a.r pa a.t.length ca)) (h1:TAt 34 W pa a.t) (H:Env W)=>jc2 h oa pa ca ba W ra h1 H
 generalize vcJ a=G at *;unfold FRes;unfold FV;clear hpa h oa da;go_enter func28,ntmps28;go_wp2_with fail;have d0_o:w.heap.size<=w.heap.size+1:=by have:=hB.size;omega
 have sB:=hB.size;refine za (fun X=>Aa w X/\Row X w.heap.size (oF a.c a.r pa a.t.length ca)/\Row X (w.heap.size+1) oF0/\Row X (w.heap.size+1+1) (oF a.c a.r pa a.t.length ca)) ⟨BW,RW8,RW8,RW8⟩ ?_;clear hB sB;rintro V1⟨hB,ra,ro,rb2⟩;have sa:=RF5 ra;have so:=kd ro;have sb2:=RF5 rb2;refine(qO 69 _ _ _ (fun g=>G=g) _ (enters_of func69 kr9 rfl) (fun X h=>CF _ _ (Ae rb2 h) (Ai HPa.out (Em hB h)) (he.below (Em hB h))) (fun X h=>CR _ _ (Ae ra h) (Ai HPa.out (Em hB h)) (he.below (Em hB h)))).mono ?_;rintro e W2⟨_,pg,cg,rfl,hT,rfl,h1⟩;have stp:=St3 hB h1 ra ro rb2;clear hB h1 ra sa ro so rb2 sb2;obtain⟨hB,ra,ro,rb2⟩:=stp;have sa:=RF5 ra;have so:=kd ro;have sb2:=RF5 rb2;unfold FV;go_wp2_with fail;have sB:=hB.size;refine vc (fun X=>Aa w X/\Row X (w.heap.size+1) (oF G.c G.r pg G.t.length cg)/\TAt 34 X pg G.t) ⟨BW,RW8,TW⟩ ?_;clear ra sa ro so rb2 sb2 hB sB hT;rintro V3⟨hB,ro,hT⟩;have so:=kd ro;refine bodyPost_ret (v:=.tuple #[.agg #[.string (S G.c.num),.string (S (G.c.den:Int)),.slice pg G.t.length cg,.string (S G.r.num),.string (S (G.r.den:Int))],.int .i64 0]) ?res rfl ⟨pg,cg,hT,rfl,hB⟩
 case res=>simp[results,results28,go_sem,so]
end Go.Proofs.YtdiecekagiledaaGreatDoor
