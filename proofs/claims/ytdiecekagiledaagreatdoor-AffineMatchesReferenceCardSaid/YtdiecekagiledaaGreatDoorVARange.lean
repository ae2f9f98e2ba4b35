/- Package affine: radius, around, that no form of a slice is invalid, Range. -/
import Derived.Test.YtdiecekagiledaaGreatDoorVAFails
set_option linter.unusedSimpArgs false
set_option linter.unusedVariables false
set_option maxRecDepth 100000
set_option maxHeartbeats 16000000
namespace Go.Proofs.YtdiecekagiledaaGreatDoor
open Go Go.RowKit Go.Lib Go.Shelf Go.Proofs.Tryz
attribute [local go_sem] yg
theorem yH(f:Frm):∃ n,f.t.length=n:=⟨_,rfl⟩
structure RangeF(f:Frm):Prop where
 rad:RadF f
 lo:SF f.c (Proofs.YtdiecekagiledaaGreatDoor.rad f)
 hi:AF f.c (Proofs.YtdiecekagiledaaGreatDoor.rad f)
theorem RangeF.of{d m n:Nat}{f:Frm}(h:FGr d m f)(hn:f.t.length+1<=n)(hd:0<d)(h1:d<10^99)(h2:n*m<10^99):RangeF f :=
 ⟨RadF.of h hn hd h1 h2,SF.of (h.c.dig hd h1 (AS (CB m oo) h2)) ((jbw h hn).dig hd h1 h2) dd,Ct (h.c.dig hd h1 (AS (CB m oo) h2)) ((jbw h hn).dig hd h1 h2) dd⟩
theorem ya8{f:Frm}{i:Nat}(h:∀ j,j<i->AF (yo f.t j) (vj (trD f.t j).c)):QDig 200 (yo f.t i):=by
 cases i with
 | zero=>exact kaZ
 | succ i=>exact(h i oo).dig
theorem ko{P:Program}{F:FuncId}{args:Array Value}{a1:Addr}{w X:World}(hB:Aa w X)(h:Calls P F args X (ji a1 X)):Calls P F args X (ji a1 w):=h.mono fun _ _ ⟨h1,h2⟩=>⟨h1,Em hB h2⟩
theorem zaQ{a0 a1:Addr}{f:Frm}(dg:FDig 200 f)(hlen:f.t.length<=1000000)(z1 z2:ByteArray)(p:En)(c:Nat)(w:World)(hp:TAt 34 w p f.t)(he:Env w)(hf:¬ RadF f->EnvA a0 a1 w):Calls prog 41 #[.agg #[.string z1,.string z2,.slice p f.t.length c,.string (S f.r.num),.string (S (f.r.den:Int))]] w (NRes (RadF f) (rad f) a1 w):=by
 have hB:=Ab w;have HP:=hid hp;have M0:=fun W (H:Env W)=>qA (n:=0) dd zG W H
 have MA:∀ i,i<f.t.length->∀ W,Env W->Calls prog 99 #[Q (trD f.t i).c] W (QIs (vj (trD f.t i).c) W):=fun i hi W H=>kc5 (dg.t _ (yk hi)) W H
 have MS:=fun i (ha:AF (yo f.t i) (vj (trD f.t i).c)) W (H:Env W)=>vbu ha W H
 have MF:=fun i (hi:i<f.t.length) (hd:QDig 200 (yo f.t i)) (ha:¬ AF (yo f.t i) (vj (trD f.t i).c)) W (H:EnvA a0 a1 W)=>vac hd (vD (dg.t _ (yk hi))) ha W H
 have ML:=fun(hd:QDig 200 (yo f.t f.t.length)) W (H:Env W) (k:¬ AF (yo f.t f.t.length) f.r->EnvA a0 a1 W)=>vcE hd dg.r W H k
 have NR:¬ AF (yo f.t f.t.length) f.r->¬ RadF f:=fun h k=>h k.last
 have RO:=fun(h:∀ j,j<f.t.length->AF (yo f.t j) (vj (trD f.t j).c)) (hl:AF (yo f.t f.t.length) f.r)=>(⟨dg,h,hl⟩:RadF f)
 have e0:(0:Rat)=yo f.t 0:=rfl;rw[e0]at M0;have er:rad f=yo f.t f.t.length+f.r:=rfl;rw[er];have HI0:Hid (∀ j,j<0->AF (yo f.t j) (vj (trD f.t j).c)):=hid fun j hj=>absurd hj (Cn j)
 unfold NRes QIs at *;unfold Q at *;generalize yo f.t f.t.length+f.r=res at *;obtain⟨n,hn⟩:=yH f;rw[hn]at hlen MA ML MF NR RO ⊢;have hnI:(n:Int)<=1000000:=oo
 have HN:=hid hn;clear hp e0 er hn;go_enter func41,ntmps41;go_wp2_with fail;have d0_o:w.heap.size<=w.heap.size+1:=by have:=hB.size;omega
 have sB:=hB.size;refine za (fun X=>Aa w X/\Row X w.heap.size (.cells #[.string z1,.string z2,.slice p n c,.string (S f.r.num),.string (S (f.r.den:Int))] 26)/\Row X (w.heap.size+1) oN0) ⟨BW,RW8,RW8⟩ ?_;clear hB sB;rintro V1⟨hB,rf,ro⟩;have sf:=RF5 rf;have so:=vd ro;refine(M0 _ (he.below hB)).mono ?_;rintro e W2⟨rfl,h1⟩;have stp:=St2 hB h1 rf ro;clear hB h1 rf sf ro so;obtain⟨hB,rf,ro⟩:=stp;have sf:=RF5 rf;have so:=vd ro;go_wp2_with fail;have df_s:w.heap.size<W2.heap.size:=oo
 have do_s:w.heap.size+1<W2.heap.size:=oo
 have d0_s:w.heap.size<=W2.heap.size:=by have:=hB.size;omega
 have sB:=hB.size;refine zi (kp2 hB rf ro fun X=>Row X W2.heap.size (oN (yo f.t 0))) ⟨BW,RW8,RW8,RW8⟩ ?_;unfold kp2;clear rf sf ro so hB sB;rintro V3⟨hB,rf,ro,rs⟩;have sf:=RF5 rf;have so:=vd ro;have ss:=vd rs;clear sf so ss;go_loopw[10] (fun v10 wr=>∃ i:Nat,Hid (∀ j,j<i->AF (yo f.t j) (vj (trD f.t j).c))/\v10=.int .i64 (i:Int)/\i<=n/\Aa w wr/\Row wr w.heap.size (.cells #[.string z1,.string z2,.slice p n c,.string (S f.r.num),.string (S (f.r.den:Int))] 26)/\Row wr (w.heap.size+1) oN0/\Row wr W2.heap.size (oN (yo f.t i))) (fun v10 _=>(n-RowKit.intOf v10).toNat)
 case atStart=>exact⟨0,HI0,rfl,oo,hB,rf,ro,rs⟩
 case round =>
  clear hB HI0 rf ro rs;obtain⟨i,HI,rfl,hin,hB,rf,ro,rs⟩:=hrel;have sf:=RF5 rf;have so:=vd ro;have ss:=vd rs;rcases AJ i n with hlt|hge
  ·have hlt':i<f.t.length:=by rw[HN.out];exact hlt
   have hlI:(i:Int)<(n:Int):=oo
   have MA:=MA i hlt;by_cases hst:AF (yo f.t i) (vj (trD f.t i).c)
   ·have MS:=MS i hst;have HI2:Hid (∀ j,j<i+1->AF (yo f.t j) (vj (trD f.t j).c)):=hid fun j hj=>(AU.1 hj).elim (HI.out j) fun e=>e ▸ hst
    have e1:yo f.t i+vj (trD f.t i).c=yo f.t (i+1):=rfl;rw[e1]at MS;clear hst e1 HI MF NR ML RO;obtain⟨t,ht⟩:∃ t,t=trD f.t i:=⟨_,rfl⟩
    rw[<- ht]at MA MS;obtain⟨g,gcur,rfl,rg,g0,g1,g2⟩:=Cd (Ai HP.out hB) hlt';rw[<- ht]at g0 g1 g2;clear ht;have Fg:=Eo rg g0 g1 g2
    have sg:=Fg _ rg;generalize vj t.c=y at *;clear hlt';go_wp2_with fail;have do_t:w.heap.size+1<wr.heap.size:=oo
    have ds_t:W2.heap.size<wr.heap.size:=oo
    have sB:=hB.size;refine zi (fun X=>Aa w X/\Row X w.heap.size (.cells #[.string z1,.string z2,.slice (some ⟨g,0,none⟩) n c,.string (S f.r.num),.string (S (f.r.den:Int))] 26)/\Row X (w.heap.size+1) oN0/\Row X W2.heap.size (oN (yo f.t i))/\Row X g (.cells gcur 34)/\Row X wr.heap.size (oT (t.s:Int) t.c)) ⟨BW,RW8,RW8,RW8,RW8,RW8⟩ ?_;clear rf sf ro so rs ss rg sg hB sB;rintro V4⟨hB,rf,ro,rs,rg,rt⟩;have sf:=RF5 rf;have so:=vd ro;have ss:=vd rs;have sg:=Fg _ rg;have st:=RF3 rt;refine qe 6 [.val (Ac (yo f.t i)),.val (.pointer (some ⟨wr.heap.size,1,none⟩)),.val (Ac t.c),.val (Ac t.c),.val (Ac y),.val (.agg #[.string (S (yo f.t (i+1)).num),.string (S ((yo f.t (i+1)).den:Int))])] kr9 kr9 trivial (iC (qi1 fun X h=>vd (Ae rs h)) (iC qi0 (iC (qi1 fun X h=>RF3 (Ae rt h)) (iC qi0 (iC (qi2 fun X h=>MA X (he.below (Em hB h))) (iC (qi2 fun X h=>MS X (he.below (Em hB h))) trivial)))))) ?_;rintro W h1;have stp:=St5 hB h1 rf ro rs rg rt;clear hB h1 rf sf ro so rs ss rg sg rt st;obtain⟨hB,rf,ro,rs,rg,rt⟩:=stp;have sf:=RF5 rf;have so:=vd ro;have ss:=vd rs;have sg:=Fg _ rg;have st:=RF3 rt
    simp only[je,Ah,Ak,Al,AB,AI,AC,AH];go_wp2;go_roundw
    case rel=>exact⟨i+1,HI2,by go_num,oo,BW,RW8,RW8,RW8⟩
    case measure=>exact El
   ·have HE:=hf fun h=>hst (h.step i hlt')
    have hc:¬ RadF f:=fun h=>hst (h.step i hlt')
    have MS:=MF i hlt (ya8 HI.out) hst;clear hst HI MF NR ML RO hf;obtain⟨t,ht⟩:∃ t,t=trD f.t i:=⟨_,rfl⟩
    rw[<- ht]at MA MS;obtain⟨g,gcur,rfl,rg,g0,g1,g2⟩:=Cd (Ai HP.out hB) hlt';rw[<- ht]at g0 g1 g2;clear ht;have Fg:=Eo rg g0 g1 g2
    have sg:=Fg _ rg;generalize vj t.c=y at *;clear hlt';go_upto_region 5 with fail;have do_t:w.heap.size+1<wr.heap.size:=oo
    have ds_t:W2.heap.size<wr.heap.size:=oo
    have sB:=hB.size;refine zi (fun X=>Aa w X/\Row X w.heap.size (.cells #[.string z1,.string z2,.slice (some ⟨g,0,none⟩) n c,.string (S f.r.num),.string (S (f.r.den:Int))] 26)/\Row X (w.heap.size+1) oN0/\Row X W2.heap.size (oN (yo f.t i))/\Row X g (.cells gcur 34)/\Row X wr.heap.size (oT (t.s:Int) t.c)) ⟨BW,RW8,RW8,RW8,RW8,RW8⟩ ?_;clear rf sf ro so rs ss rg sg hB sB;rintro V4⟨hB,rf,ro,rs,rg,rt⟩;have sf:=RF5 rf;have so:=vd ro;have ss:=vd rs;have sg:=Fg _ rg;have st:=RF3 rt;exact ye 5 [true,true,true,true,true,false,false] [.val (Ac (yo f.t i)),.val (.pointer (some ⟨wr.heap.size,1,none⟩)),.val (Ac t.c),.val (Ac t.c),.val (Ac y),.val undef,.val undef] (ji a1 w) kr9 kr9 trivial (bC (qi1 fun X h=>vd (Ae rs h)) (bC qi0 (bC (qi1 fun X h=>RF3 (Ae rt h)) (bC qi0 (bC (qi2 fun X h=>MA X (he.below (Em hB h))) (bS9 (bS9 trivial))))))) (qhf rfl (fun X h=>ko (Em hB h) (MS X (HE.below (Em hB h))))) fun e W ⟨h1,h2⟩=>⟨_,h1,fun _ h3=>⟨h3,.inr ⟨hc,rfl,h2⟩⟩⟩
  ·obtain rfl:n=i:=oo
   clear MA MS MF;have ML:=ML (ya8 HI.out);go_wp2_with fail;refine(ML _ (he.below hB) (fun k=>(hf (NR k)).below hB)).mono ?_;rintro e W4 (⟨hl,rfl,h1⟩|⟨hl,rfl,h1⟩)
   case inr=>exact⟨rfl,.inr ⟨NR hl,rfl,Em hB h1⟩⟩
   have stp:=St3 hB h1 rf ro rs;clear hB h1 rf sf ro so rs ss;obtain⟨hB,rf,ro,rs⟩:=stp;have sf:=RF5 rf;have so:=vd ro;have ss:=vd rs;go_wp2_with fail;have sB:=hB.size;refine vc (fun X=>Aa w X/\Row X w.heap.size (.cells #[.string z1,.string z2,.slice p n c,.string (S f.r.num),.string (S (f.r.den:Int))] 26)/\Row X (w.heap.size+1) (oN res)/\Row X W2.heap.size (oN (yo f.t n))) ⟨BW,RW8,RW8,RW8⟩ ?_;clear rf sf ro so rs ss hB sB;rintro V5⟨hB,rf,ro,rs⟩;have sf:=RF5 rf;have so:=vd ro;have ss:=vd rs;refine bodyPost_ret (v:=Ac res) ?res rfl (.inl ⟨RO HI.out hl,rfl,hB⟩)
   case res=>simp[results,results41,go_sem,so]
theorem vaP{f:Frm}(h:RadF f)(hlen:f.t.length<=1000000)(z1 z2:ByteArray)(p:En)(c:Nat)(w:World)(hp:TAt 34 w p f.t)(he:Env w):Calls prog 41 #[.agg #[.string z1,.string z2,.slice p f.t.length c,.string (S f.r.num),.string (S (f.r.den:Int))]] w (QIs (rad f) w):=(zaQ (a0:=⟨0,0,none⟩) (a1:=⟨0,0,none⟩) h.dig hlen z1 z2 p c w hp he fun k=>absurd h k).mono fun _ _ k=>k.ok h
def jca(a:Iv)(w:World)(e:Ending)(w':World):Prop:=e=.returned (I a)/\Aa w w'
def Or2(c:Prop)(R:Ending->World->Prop)(a1:Addr)(w:World)(e:Ending)(w':World):Prop:=(c/\R e w')\/(¬ c/\ji a1 w e w')
theorem Or2.ok{c:Prop}{R:Ending->World->Prop}{a1:Addr}{w w':World}{e:Ending}(h:Or2 c R a1 w e w')(hc:c):R e w':=h.elim (·.2) fun k=>absurd hc k.1
theorem Or2.no{c:Prop}{R:Ending->World->Prop}{a1:Addr}{w w':World}{e:Ending}(h:Or2 c R a1 w e w')(hc:¬ c):ji a1 w e w':=h.elim (fun k=>absurd k.1 hc) (·.2)
theorem jaP{a0 a1:Addr}{m b:Rat}(dm:QDig 200 m)(db:QDig 200 b)(w:World)(he:Env w)(hf:¬ (SF m b/\AF m b)->EnvA a0 a1 w):Calls prog 40 #[Q m,Q b] w (Or2 (SF m b/\AF m b) (jca ⟨m-b,m+b⟩ w) a1 w):=by
 have hB:=Ab w;have FN:=ja5;have M1:=fun(hs:SF m b) W (H:Env W)=>vc5 hs W H
 have M2:=fun(ha:AF m b) W (H:Env W)=>vbu ha W H
 have G1:=fun(hs:¬ SF m b) W (H:EnvA a0 a1 W)=>qcn dm db hs W H
 have G2:=fun(ha:¬ AF m b) W (H:EnvA a0 a1 W)=>vac dm db ha W H
 unfold Or2 jca I;unfold QIs at *;generalize m-b=x at *;generalize m+b=y at *;unfold Q at *;clear dm db;go_enter func40,ntmps40;go_upto_region 1 with fail;have d0_o:w.heap.size<=w.heap.size+1+1:=by have:=hB.size;omega
 have sB:=hB.size;refine zi (fun X=>Aa w X/\Row X w.heap.size (oN m)/\Row X (w.heap.size+1) (oN b)/\Row X (w.heap.size+1+1) oI0) ⟨BW,RW8,RW8,RW8⟩ ?_;clear hB sB;rintro V1⟨hB,rx,ry,ro⟩;have sx:=RF2 rx;have sy:=RF2 ry;have so:=kn ro;by_cases hs:SF m b
 ·by_cases ha:AF m b
  ·have M1:=M1 hs;have M2:=M2 ha;clear G1 G2;go_wp2_with fail;refine qe 9 [.val (Ac m),.val (Ac b),.val (Ac x),.val (Ac x),.val (Ac m),.val (Ac b),.val (Ac y),.val (Ac y),.val (.agg #[.string (S x.num),.string (S (x.den:Int)),.string (S y.num),.string (S (y.den:Int))])] kr9 kr9 trivial (iC (qi1 fun X h=>RF2 (Ae rx h)) (iC (qi1 fun X h=>RF2 (Ae ry h)) (iC (qi2 fun X h=>M1 X (he.below (Em hB h))) (iC (qif FN) (iC (qi1 fun X h=>RF2 (Ae rx h)) (iC (qi1 fun X h=>RF2 (Ae ry h)) (iC (qi2 fun X h=>M2 X (he.below (Em hB h))) (iC (qif FN) (iC qi0 trivial))))))))) ?_;rintro W h1;have stp:=St3 hB h1 rx ry ro;clear hB h1 rx sx ry sy ro so;obtain⟨hB,rx,ry,ro⟩:=stp;have sx:=RF2 rx;have sy:=RF2 ry;have so:=kn ro;simp only[je,Ah,Ak,Al,AB,AI,AC,AH];go_wp2_with fail;have sB:=hB.size;refine vc (fun X=>Aa w X/\Row X (w.heap.size+1+1) (oI x y)) ⟨BW,RW8⟩ ?_
   clear rx sx ry sy ro so hB sB;rintro V2⟨hB,ro⟩;have so:=kn ro;refine bodyPost_ret (v:=.agg #[.string (S x.num),.string (S (x.den:Int)),.string (S y.num),.string (S (y.den:Int))]) ?res rfl (.inl ⟨⟨hs,ha⟩,rfl,hB⟩)
   case res=>simp[results,results40,go_sem,so]
  ·have M1:=M1 hs;have G2:=G2 ha;have HE:=hf fun k=>ha k.2
   clear hf;go_upto_region 1 with fail;exact ye 6 [true,true,true,true,true,true,false,false,false,false] [.val (Ac m),.val (Ac b),.val (Ac x),.val (Ac x),.val (Ac m),.val (Ac b),.val undef,.val undef,.val undef,.val undef] (ji a1 w) kr9 kr9 trivial (bC (qi1 fun X h=>RF2 (Ae rx h)) (bC (qi1 fun X h=>RF2 (Ae ry h)) (bC (qi2 fun X h=>M1 X (he.below (Em hB h))) (bC (qif FN) (bC (qi1 fun X h=>RF2 (Ae rx h)) (bC (qi1 fun X h=>RF2 (Ae ry h)) (bS9 (bS9 (bS9 (bS9 trivial)))))))))) (qhf rfl (fun X h=>ko (Em hB h) (G2 X (HE.below (Em hB h))))) fun e W ⟨h1,h2⟩=>⟨_,h1,fun _ h3=>⟨h3,.inr ⟨fun k=>ha k.2,rfl,h2⟩⟩⟩
 ·have G1:=G1 hs;have HE:=hf fun k=>hs k.1
  clear hf;go_upto_region 1 with fail;exact ye 2 [true,true,false,false,true,true,false,false,false,false] [.val (Ac m),.val (Ac b),.val undef,.val undef,.val (Ac m),.val (Ac b),.val undef,.val undef,.val undef,.val undef] (ji a1 w) kr9 kr9 trivial (bC (qi1 fun X h=>RF2 (Ae rx h)) (bC (qi1 fun X h=>RF2 (Ae ry h)) (bS9 (bS9 (bC (qi1 fun X h=>RF2 (Ae rx h)) (bC (qi1 fun X h=>RF2 (Ae ry h)) (bS9 (bS9 (bS9 (bS9 trivial)))))))))) (qhf rfl (fun X h=>ko (Em hB h) (G1 X (HE.below (Em hB h))))) fun e W ⟨h1,h2⟩=>⟨_,h1,fun _ h3=>⟨h3,.inr ⟨fun k=>hs k.1,rfl,h2⟩⟩⟩
theorem vbM{m b:Rat}(hs:SF m b)(ha:AF m b)(w:World)(he:Env w):Calls prog 40 #[Q m,Q b] w (jca ⟨m-b,m+b⟩ w):=(jaP (a0:=⟨0,0,none⟩) (a1:=⟨0,0,none⟩) hs.da hs.db w he fun k=>absurd ⟨hs,ha⟩ k).mono fun _ _ k=>k.ok ⟨hs,ha⟩
theorem jcc{a0 a1:Addr}{f:Frm}(dg:FDig 200 f)(hlen:f.t.length<=1000000)(p:En)(c bf:Nat)(w:World)(rf:Row w bf (oF f.c f.r p f.t.length c))(hp:TAt 34 w p f.t)(he:Env w)(hf:¬ RangeF f->EnvA a0 a1 w):Calls prog 39 #[.pointer (some ⟨bf,0,none⟩)] w (Or2 (RangeF f) (zcJ (fun a=>yh f=a) w) a1 w):=by
 have hB:=Ab w;have HP:=hid hp;have MR:=fun(h:RadF f) W (hp:TAt 34 W p f.t) (H:Env W)=>vaP h hlen (S f.c.num) (S (f.c.den:Int)) p c W hp H
 have G1:=fun(h:¬ RadF f) W (hp:TAt 34 W p f.t) (H:EnvA a0 a1 W)=>(zaQ dg hlen (S f.c.num) (S (f.c.den:Int)) p c W hp H.env fun _=>H).mono fun _ _ k=>k.no h
 have MA:=fun(h:SF f.c (rad f)/\AF f.c (rad f)) W (H:Env W)=>vbM h.1 h.2 W H
 have G2:=fun(hr:RadF f) (h:¬ (SF f.c (rad f)/\AF f.c (rad f))) W (H:EnvA a0 a1 W)=>(jaP (b:=rad f) dg.c hr.last.dig W H.env fun _=>H).mono fun _ _ k=>k.no h
 have RO:RadF f->SF f.c (rad f)/\AF f.c (rad f)->RangeF f:=fun h k=>⟨h,k.1,k.2⟩
 have NR:RangeF f->RadF f/\SF f.c (rad f)/\AF f.c (rad f):=fun h=>⟨h.rad,h.lo,h.hi⟩
 unfold QIs at MR;unfold jca I at MA;unfold Or2 zcJ I yh;generalize f.c-rad f=x at *;generalize f.c+rad f=y at *;generalize rad f=b at *;unfold Q at *;clear hp;have sf:=RF5 rf;go_enter func39,ntmps39;go_upto_region 1 with fail;have df_o:bf<w.heap.size:=oo
 have d0_o:w.heap.size<=w.heap.size:=by have:=hB.size;omega
 have sB:=hB.size;refine zi (kp1 hB rf fun X=>Row X w.heap.size oI0) ⟨BW,RW8,RW8⟩ ?_;unfold kp1;clear rf sf hB sB;rintro V1⟨hB,rf,ro⟩;have sf:=RF5 rf;have so:=kn ro;by_cases hr:RadF f
 ·by_cases hk:SF f.c b/\AF f.c b
  ·have hc:=RO hr hk;have MR:=MR hr;have MA:=MA hk;clear G1 G2 RO NR hr hk;go_wp2_with fail;refine qe 6 [.val (.pointer (some ⟨bf,0,none⟩)),.val (Ac f.c),.val (Ac f.c),.val (.agg #[.string (S f.c.num),.string (S (f.c.den:Int)),.slice p f.t.length c,.string (S f.r.num),.string (S (f.r.den:Int))]),.val (Ac b),.val (.agg #[.string (S x.num),.string (S (x.den:Int)),.string (S y.num),.string (S (y.den:Int))])] kr9 kr9 trivial (iC qi0 (iC (qi1 fun X h=>RF5 (Ae rf h)) (iC qi0 (iC (qi1 fun X h=>RF5 (Ae rf h)) (iC (qi2 fun X h=>MR X (Ai HP.out (Em hB h)) (he.below (Em hB h))) (iC (qi2 fun X h=>MA X (he.below (Em hB h))) trivial)))))) ?_;rintro W h1;have stp:=St2 hB h1 rf ro;clear hB h1 rf sf ro so;obtain⟨hB,rf,ro⟩:=stp;have sf:=RF5 rf;have so:=kn ro;simp only[je,Ah,Ak,Al,AB,AI,AC,AH];go_wp2_with fail;have sB:=hB.size;refine vc (fun X=>Aa w X/\Row X w.heap.size (oI x y)) ⟨BW,RW8⟩ ?_;clear rf sf ro so hB sB;rintro V2⟨hB,ro⟩;have so:=kn ro;refine bodyPost_ret (v:=.agg #[.string (S x.num),.string (S (x.den:Int)),.string (S y.num),.string (S (y.den:Int))]) ?res rfl (.inl ⟨hc,⟨x,y⟩,rfl,rfl,hB⟩)
   case res=>simp[results,results39,go_sem,so]
  ·have hc:¬ RangeF f:=fun k=>hk (NR k).2
   have HE:=hf hc;have MR:=MR hr;have G2:=G2 hr hk;clear hf MA G1 RO NR hr hk;go_upto_region 1 with fail;exact ye 5 [true,true,true,true,true,false,false] [.val (.pointer (some ⟨bf,0,none⟩)),.val (Ac f.c),.val (Ac f.c),.val (.agg #[.string (S f.c.num),.string (S (f.c.den:Int)),.slice p f.t.length c,.string (S f.r.num),.string (S (f.r.den:Int))]),.val (Ac b),.val undef,.val undef] (ji a1 w) kr9 kr9 trivial (bC qi0 (bC (qi1 fun X h=>RF5 (Ae rf h)) (bC qi0 (bC (qi1 fun X h=>RF5 (Ae rf h)) (bC (qi2 fun X h=>MR X (Ai HP.out (Em hB h)) (he.below (Em hB h))) (bS9 (bS9 trivial))))))) (qhf rfl (fun X h=>ko (Em hB h) (G2 X (HE.below (Em hB h))))) fun e W ⟨h1,h2⟩=>⟨_,h1,fun _ h3=>⟨h3,.inr ⟨hc,rfl,h2⟩⟩⟩
 ·have hc:¬ RangeF f:=fun k=>hr (NR k).1
  have HE:=hf hc;have G1:=G1 hr;clear hf MR MA G2 RO NR hr;go_upto_region 1 with fail;exact ye 4 [true,true,true,true,false,false,false] [.val (.pointer (some ⟨bf,0,none⟩)),.val (Ac f.c),.val (Ac f.c),.val (.agg #[.string (S f.c.num),.string (S (f.c.den:Int)),.slice p f.t.length c,.string (S f.r.num),.string (S (f.r.den:Int))]),.val undef,.val undef,.val undef] (ji a1 w) kr9 kr9 trivial (bC qi0 (bC (qi1 fun X h=>RF5 (Ae rf h)) (bC qi0 (bC (qi1 fun X h=>RF5 (Ae rf h)) (bS9 (bS9 (bS9 trivial))))))) (qhf rfl (fun X h=>ko (Em hB h) (G1 X (Ai HP.out (Em hB h)) (HE.below (Em hB h))))) fun e W ⟨h1,h2⟩=>⟨_,h1,fun _ h3=>⟨h3,.inr ⟨hc,rfl,h2⟩⟩⟩
theorem kcy{f:Frm}(ho:f.Ok)(hd:FDig 200 f)(p:En)(c:Nat)(w:World)(hp:TAt 34 w p f.t)(he:Env w):Calls prog 97 #[FV f p c] w (qa false w):=by
 have hB:=Ab w;have HP:=hid hp;have MV:=fun W (hp:TAt 34 W p f.t) (H:Env W)=>jY ho hd p c W hp H
 unfold qa FV at *;clear hp;go_enter func97,ntmps97;go_wp2_with fail;have sB:=hB.size;refine za (fun X=>Aa w X) BW ?_;clear hB sB;rintro V1 hB;refine(MV _ (Ai HP.out hB) (he.below hB)).mono ?_;rintro e W2⟨rfl,h1⟩;have stp:=St0 hB h1;clear hB h1;have hB:=stp;clear stp;go_wp2;go_ret;exact⟨rfl,hB⟩
theorem qbz{f:Frm}(ho:f.Ok)(hd:FDig 200 f)(p:En)(c:Nat)(w:World)(hp:TAt 34 w p f.t)(he:Env w):Calls prog 117 #[FV f p c] w (qa false w):=by
 have hB:=Ab w;have HP:=hid hp;have MV:=fun W (hp:TAt 34 W p f.t) (H:Env W)=>jY ho hd p c W hp H
 unfold qa FV at *;clear hp;go_enter func117,ntmps117;go_wp2_with fail;have sB:=hB.size;refine za (fun X=>Aa w X) BW ?_;clear hB sB;rintro V1 hB;refine(MV _ (Ai HP.out hB) (he.below hB)).mono ?_;rintro e W2⟨rfl,h1⟩;have stp:=St0 hB h1;clear hB h1;have hB:=stp;clear stp;go_wp2;go_ret;exact⟨rfl,hB⟩
theorem zcN{f:Frm}(ho:f.Ok)(hd:FDig 200 f)(p:En)(c:Nat)(w:World)(hp:TAt 34 w p f.t)(he:Env w):Calls prog 122 #[FV f p c] w (qa false w):=by
 have hB:=Ab w;have HP:=hid hp;have MV:=fun W (hp:TAt 34 W p f.t) (H:Env W)=>jY ho hd p c W hp H
 unfold qa FV at *;clear hp;go_enter func122,ntmps122;go_wp2_with fail;have sB:=hB.size;refine za (fun X=>Aa w X) BW ?_;clear hB sB;rintro V1 hB;refine(MV _ (Ai HP.out hB) (he.below hB)).mono ?_;rintro e W2⟨rfl,h1⟩;have stp:=St0 hB h1;clear hB h1;have hB:=stp;clear stp;go_wp2;go_ret;exact⟨rfl,hB⟩
theorem vcB(G:FuncId)(eg:∀ args w,(callFunc G args).run prog w=.ok (.enter G args) w)(s:Nat)(a:Frm)(pa:En)(ca:Nat)(w:World)(r0:Row w s (oF a.c a.r pa a.t.length ca))
  (ha:∀ W,Aa w W->Calls prog G #[FV a pa ca] W (qa false W)) :
  Calls prog 147 #[.slice (some ⟨s,0,none⟩) 1 1,.func (.func G) #[] #[]] w fun e w'=>e=.returned (.int .i64 (-1))/\Aa w w':=by
 unfold FV at ha;go_enter func147,ntmps147;go_wp2;go_loopw[8] (fun iv wr=>∃(k:Nat),k<=1/\iv=.int .i64 (k:Int)/\Row wr s (oF a.c a.r pa a.t.length ca)/\Aa w wr) (fun iv _=>1-(RowKit.intOf iv).toNat)
 case atStart=>exact⟨0,oo,rfl,r0,Au _ _⟩
 case round =>
  obtain⟨k,hk,rfl,hr,hB'⟩:=hrel;have k0:=Af hr 0 rfl;have k1:=Af hr 1 rfl;have k2:=Af hr 2 rfl;have k3:=Af hr 3 rfl;have k4:=Af hr 4 rfl;rcases(show k=0\/k=1 by omega)with rfl|rfl
  ·go_wp2_with (go_at_fn G;refine(ha _ hB').mono ?_;rintro e W1⟨rfl,h1⟩);exact⟨⟨1,oo,rfl,Ae hr h1,hB'.trans (h1.mono hB'.size)⟩,by simp[RowKit.intOf]⟩
  ·go_wp2;go_ret;exact⟨rfl,hB'⟩
theorem yR(G:FuncId)(eg:∀ args w,(callFunc G args).run prog w=.ok (.enter G args) w)(s:Nat)(a:Frm)(pa:En)(ca:Nat)(w:World)(r0:Row w s (oF a.c a.r pa a.t.length ca))
  (ha:∀ W,Aa w W->Calls prog G #[FV a pa ca] W (qa false W)) :
  Calls prog 96 #[.slice (some ⟨s,0,none⟩) 1 1,.func (.func G) #[] #[]] w (qa false w):=by
 have H:=vcB G eg s a pa ca w r0 ha;go_enter func96,ntmps96;go_wp2_with fail;refine H.mono ?_;rintro e W⟨rfl,h1⟩;go_wp2;go_ret;exact⟨rfl,h1⟩
theorem zcC(G:FuncId)(eg:∀ args w,(callFunc G args).run prog w=.ok (.enter G args) w)(s:Nat)(a b:Frm)(pa pb:En)(ca cb:Nat)(w:World)(r0:Row w s (.cells #[.string (S a.c.num),.string (S (a.c.den:Int)),.slice pa a.t.length ca,.string (S a.r.num),.string (S (a.r.den:Int)),.string (S b.c.num),.string (S (b.c.den:Int)),.slice pb b.t.length cb,.string (S b.r.num),.string (S (b.r.den:Int))] 26))
  (ha:∀ W,Aa w W->Calls prog G #[FV a pa ca] W (qa false W)) (hb:∀ W,Aa w W->Calls prog G #[FV b pb cb] W (qa false W)) :
  Calls prog 147 #[.slice (some ⟨s,0,none⟩) 2 2,.func (.func G) #[] #[]] w fun e w'=>e=.returned (.int .i64 (-1))/\Aa w w':=by
 unfold FV at ha hb;go_enter func147,ntmps147;go_wp2;go_loopw[8] (fun iv wr=>∃(k:Nat),k<=2/\iv=.int .i64 (k:Int)/\Row wr s (.cells #[.string (S a.c.num),.string (S (a.c.den:Int)),.slice pa a.t.length ca,.string (S a.r.num),.string (S (a.r.den:Int)),.string (S b.c.num),.string (S (b.c.den:Int)),.slice pb b.t.length cb,.string (S b.r.num),.string (S (b.r.den:Int))] 26)/\Aa w wr) (fun iv _=>2-(RowKit.intOf iv).toNat)
 case atStart=>exact⟨0,oo,rfl,r0,Au _ _⟩
 case round =>
  obtain⟨k,hk,rfl,hr,hB'⟩:=hrel;have k0:=Af hr 0 rfl;have k1:=Af hr 1 rfl;have k2:=Af hr 2 rfl;have k3:=Af hr 3 rfl;have k4:=Af hr 4 rfl;have k5:=Af hr 5 rfl;have k6:=Af hr 6 rfl;have k7:=Af hr 7 rfl;have k8:=Af hr 8 rfl;have k9:=Af hr 9 rfl;rcases(show k=0\/k=1\/k=2 by omega)with rfl|rfl|rfl
  ·go_wp2_with (go_at_fn G;refine(ha _ hB').mono ?_;rintro e W1⟨rfl,h1⟩);exact⟨⟨1,oo,rfl,Ae hr h1,hB'.trans (h1.mono hB'.size)⟩,by simp[RowKit.intOf]⟩
  ·go_wp2_with (go_at_fn G;refine(hb _ hB').mono ?_;rintro e W1⟨rfl,h1⟩);exact⟨⟨2,oo,rfl,Ae hr h1,hB'.trans (h1.mono hB'.size)⟩,by simp[RowKit.intOf]⟩
  ·go_wp2;go_ret;exact⟨rfl,hB'⟩
theorem kar(G:FuncId)(eg:∀ args w,(callFunc G args).run prog w=.ok (.enter G args) w)(s:Nat)(a b:Frm)(pa pb:En)(ca cb:Nat)(w:World)(r0:Row w s (.cells #[.string (S a.c.num),.string (S (a.c.den:Int)),.slice pa a.t.length ca,.string (S a.r.num),.string (S (a.r.den:Int)),.string (S b.c.num),.string (S (b.c.den:Int)),.slice pb b.t.length cb,.string (S b.r.num),.string (S (b.r.den:Int))] 26))
  (ha:∀ W,Aa w W->Calls prog G #[FV a pa ca] W (qa false W)) (hb:∀ W,Aa w W->Calls prog G #[FV b pb cb] W (qa false W)) :
  Calls prog 96 #[.slice (some ⟨s,0,none⟩) 2 2,.func (.func G) #[] #[]] w (qa false w):=by
 have H:=zcC G eg s a b pa pb ca cb w r0 ha hb;go_enter func96,ntmps96;go_wp2_with fail;refine H.mono ?_;rintro e W⟨rfl,h1⟩;go_wp2;go_ret;exact⟨rfl,h1⟩
structure RFm where
 c1:ByteArray
 c2:ByteArray
 l:List RT
 r1:ByteArray
 r2:ByteArray
def Frm.rfm(f:Frm):RFm:=⟨S f.c.num,S (f.c.den:Int),kN f.t,S f.r.num,S (f.r.den:Int)⟩
def kau:RFm:=⟨⟨#[]⟩,⟨#[]⟩,[],⟨#[]⟩,⟨#[]⟩⟩
def RV(x:RFm)(p:En)(k:Nat):Value:=.agg #[.string x.c1,.string x.c2,.slice p x.l.length k,.string x.r1,.string x.r2]
theorem qY(f:Frm)(p:En)(k:Nat):RV f.rfm p k=FV f p k:=by unfold RV FV Frm.rfm;rw[kf]
structure RIv where
 l1:ByteArray
 l2:ByteArray
 h1:ByteArray
 h2:ByteArray
def Iv.riv(a:Iv):RIv:=⟨S a.lo.num,S (a.lo.den:Int),S a.hi.num,S (a.hi.den:Int)⟩
def kW:RIv:=⟨⟨#[]⟩,⟨#[]⟩,⟨#[]⟩,⟨#[]⟩⟩
def IvX(Y:RIv)(z:Int)(w:World)(e:Ending)(w':World):Prop:=e=.returned (.tuple #[.agg #[.string Y.l1,.string Y.l2,.string Y.h1,.string Y.h2],.int .i64 z])/\Aa w w'
theorem vaL(F:FuncId)(caps:Array Value)(s n:Nat){c:Prop}{G:Iv}{a0 a1:Addr}(w:World)(eg:∀ args w,(callFunc F args).run prog w=.ok (.enter F args) w)(he:¬ c->EnvA a0 a1 w)
  (hv:∀ W,Aa w W->Calls prog 96 #[.slice (some ⟨s,0,none⟩) n n,.func (.func 97) #[] #[]] W (qa false W))
  (h:∀ W,Aa w W->Calls prog F caps W (Or2 c (zcJ (fun g=>G=g) W) a1 W)) :
  (c->Calls prog 38 #[.func (.func F) #[] caps,.slice (some ⟨s,0,none⟩) n n] w (IvX G.riv 0 w))/\(¬ c->Calls prog 38 #[.func (.func F) #[] caps,.slice (some ⟨s,0,none⟩) n n] w (IvX kW 80 w)) :=
 ⟨fun hc=>(qa2 F caps s n (fun g=>G=g) w eg hv fun W hW=>(h W hW).mono fun _ _ k=>k.ok hc).mono fun _ _ ⟨a,e,h1,h2⟩=>⟨by rw[e];exact h1,h2⟩,
  fun hc=>(kaj F caps s n a0 a1 w (he hc) eg hv fun W hW=>(h W hW).mono fun _ _ k=>k.no hc).mono fun _ _ h=>⟨h.1,h.2⟩⟩
def zcL(a:Iv)(w:World)(e:Ending)(w':World):Prop:=e=.returned (.tuple #[I a,.int .i64 0])/\Aa w w'
theorem vbO{x:RFm}{Y:RIv}{z:Int}(p:En)(c:Nat)(w:World)(HC:∀ b s W,Aa w W->Row W b (.cells #[.string x.c1,.string x.c2,.slice p x.l.length c,.string x.r1,.string x.r2] 26)->Row W s (.cells #[.string x.c1,.string x.c2,.slice p x.l.length c,.string x.r1,.string x.r2] 26)->Calls prog 38 #[.func (.func 39) #[] #[.pointer (some ⟨b,0,none⟩)],.slice (some ⟨s,0,none⟩) 1 1] W (IvX Y z W)):Calls prog 15 #[RV x p c] w (IvX Y z w):=by
 have hB:=Ab w;unfold IvX RV at *;go_enter func15,ntmps15;go_wp2_with fail;have d0_o:w.heap.size<=w.heap.size+1:=by have:=hB.size;omega
 have sB:=hB.size;refine za (fun X=>Aa w X/\Row X w.heap.size (.cells #[.string x.c1,.string x.c2,.slice p x.l.length c,.string x.r1,.string x.r2] 26)/\Row X (w.heap.size+1) oI0/\Row X (w.heap.size+1+1) (.cells #[.string x.c1,.string x.c2,.slice p x.l.length c,.string x.r1,.string x.r2] 26)) ⟨BW,RW8,RW8,RW8⟩ ?_;clear hB sB;rintro V1⟨hB,rf,ro,rb2⟩;have sf:=RF5 rf;have so:=kn ro;have sb2:=RF5 rb2;refine(HC _ _ _ hB rf rb2).mono ?_;rintro e W2⟨rfl,h1⟩;have stp:=St3 hB h1 rf ro rb2;clear hB h1 rf sf ro so rb2 sb2;obtain⟨hB,rf,ro,rb2⟩:=stp;have sf:=RF5 rf;have so:=kn ro;have sb2:=RF5 rb2;go_wp2_with fail;have sB:=hB.size;refine vc (fun X=>Aa w X/\Row X (w.heap.size+1) (.cells #[.string Y.l1,.string Y.l2,.string Y.h1,.string Y.h2] 44)) ⟨BW,RW8⟩ ?_;clear rf sf ro so rb2 sb2 hB sB;rintro V3⟨hB,ro⟩;have so:=kn ro;refine bodyPost_ret (v:=.tuple #[.agg #[.string Y.l1,.string Y.l2,.string Y.h1,.string Y.h2],.int .i64 z]) ?res rfl ⟨rfl,hB⟩
 case res=>simp[results,results15,go_sem,so]
theorem kbd{a0 a1:Addr}{f:Frm}(ho:f.Ok)(dg:FDig 200 f)(p:En)(c:Nat)(w:World)(hp:TAt 34 w p f.t)(he:Env w)(hf:¬ RangeF f->EnvA a0 a1 w) :
  (RangeF f->Calls prog 15 #[RV f.rfm p c] w (IvX (yh f).riv 0 w))/\(¬ RangeF f->Calls prog 15 #[RV f.rfm p c] w (IvX kW 80 w)):=by
 have K:=fun b s W (hB:Aa w W) (rb:Row W b (oF f.c f.r p f.t.length c)) (rs:Row W s (oF f.c f.r p f.t.length c)) =>
  vaL 39 #[.pointer (some ⟨b,0,none⟩)] s 1 (c:=RangeF f) (G:=yh f) (a0:=a0) (a1:=a1) W (enters_of func39 kr9 rfl) (fun k=>(hf k).below hB)
   (fun X h=>yR 97 (enters_of func97 kr9 rfl) s f p c X (Ae rs h) (fun Y hY=>kcy ho dg p c Y (Ai (Ai hp hB) (Em h hY)) ((he.below hB).below (Em h hY))))
   (fun X h=>jcc dg (Bb ho.few dd) p c b X (Ae rb h) (Ai (Ai hp hB) h) ((he.below hB).below h) fun k=>((hf k).below hB).below h)
 have e1:=kf f.t;refine⟨fun hc=>vbO p c w fun b s W hB rb rs => ?_,fun hc=>vbO p c w fun b s W hB rb rs => ?_⟩
 ·unfold Frm.rfm at rb rs;dsimp only at rb rs;rw[e1]at rb rs;exact(K b s W hB rb rs).1 hc
 ·unfold Frm.rfm at rb rs;dsimp only at rb rs;rw[e1]at rb rs;exact(K b s W hB rb rs).2 hc
theorem ybO{f:Frm}(ho:f.Ok)(h:RangeF f)(hlen:f.t.length<=1000000)(p:En)(c:Nat)(w:World)(hp:TAt 34 w p f.t)(he:Env w):Calls prog 15 #[FV f p c] w (zcL (yh f) w):=by
 have:=(kbd (a0:=⟨0,0,none⟩) (a1:=⟨0,0,none⟩) ho h.rad.dig p c w hp he fun k=>absurd h k).1 h;rw[qY]at this;exact this
end Go.Proofs.YtdiecekagiledaaGreatDoor
