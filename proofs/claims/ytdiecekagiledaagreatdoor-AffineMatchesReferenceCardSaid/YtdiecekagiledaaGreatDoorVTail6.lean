/- The reference implementation of forms: Radius, around, Range, done; whether. -/
import Derived.Test.YtdiecekagiledaaGreatDoorVR8O
import Derived.Test.YtdiecekagiledaaGreatDoorVR8W
set_option linter.unusedSimpArgs false
set_option linter.unusedVariables false
set_option maxRecDepth 100000
set_option maxHeartbeats 16000000
namespace Go.Proofs.YtdiecekagiledaaGreatDoor
open Go Go.RowKit Go.Lib Go.Shelf Go.Proofs.Tryz
attribute [local go_sem] yg
theorem yS{W:World}{a b:Nat}{x y:Array Value}{T U:TypeId}(h1:Row W a (.cells x T))(h2:Row W b (.cells y U))(h:T≠U):a≠b:=fun e=>by
 subst e;have:=h1.2.symm.trans h2.2;injection this with this;injection this with _ h4;exact h h4
theorem qbt(x y:Option Rat):(x.isNone||(yv x y).isNone)=(yv x y).isNone:=by cases x<;>simp[yv]
def qR(l:List Trm):Nat->Option Rat
 | 0=>some 0
 | k+1=>yv (qR l k) (some (vj (trD l k).c))
def yU(f:Frm):Option Rat:=yv (qR f.t f.t.length) (some f.r)
theorem qb4(l:List Trm):∀ k,OD (qR l k)
 | 0=>Cc kaZ
 | _+1=>vaA _ _
theorem vam{f:Frm}:∀ k,(∀ j,j<k->AF (yo f.t j) (vj (trD f.t j).c))->qR f.t k=some (yo f.t k)
 | 0,_=>rfl
 | k+1,h=>by
  show yv (qR f.t k) _=_;rw[vam k fun j hj=>h j oo,zA (h k oo)];rfl
theorem qbw{f:Frm}:∀ k,(qR f.t k).isSome=true->∀ j,j<k->AF (yo f.t j) (vj (trD f.t j).c)
 | 0,_,j,hj=>absurd hj (Cn j)
 | k+1,h,j,hj=>by
  have h:(yv (qR f.t k) (some (vj (trD f.t k).c))).isSome=true:=h;have h0:(qR f.t k).isSome=true:=by
   cases e:qR f.t k with
   | none=>rw[e]at h;cases h
   | some q=>rfl
  have ih:=qbw k h0;rcases AU.1 hj with hj|hj
  ·exact ih j hj
  ·subst hj;rw[vam j ih]at h;by_cases ha:AF (yo f.t j) (vj (trD f.t j).c)
   ·exact ha
   ·rw[qT ha]at h;cases h
theorem kaH{f:Frm}(h:RadF f):yU f=some (rad f):=by
 unfold yU;rw[vam _ h.step,zA h.last];rfl
theorem ka8{f:Frm}(dg:FDig 200 f)(h:¬ RadF f):yU f=none:=by
 cases e:yU f with
 | none=>rfl
 | some q =>
  exfalso;unfold yU at e;have h0:(qR f.t f.t.length).isSome=true:=by
   cases e2:qR f.t f.t.length with
   | none=>rw[e2]at e;cases e
   | some q=>rfl
  have hs:=qbw _ h0;rw[vam _ hs]at e;by_cases hl:AF (yo f.t f.t.length) f.r
  ·exact h ⟨dg,hs,hl⟩
  ·rw[qT hl]at e;cases e
theorem kco(bc:Nat)(fl:Bool){f:Frm}(dg:FDig 200 f)(hlen:f.t.length<=1000000)(z1 z2:ByteArray)(p:En)(c:Nat)(w:World)(rk:Row w bc (.cells #[.bool fl] 77))(hp:TAt 34 w p f.t):Calls prog 43 #[.pointer (some ⟨bc,0,none⟩),.agg #[.string z1,.string z2,.slice p f.t.length c,.string (S f.r.num),.string (S (f.r.den:Int))]] w (CalcR bc (fl||(yU f).isNone) (yU f) w):=by
 have hB:w.grownBy w (some bc):=World.grownBy.refl _ _;have hbc:=rk.1;have HPW:∀ X,w.grownBy X (some bc)->UAt 34 X p (kN f.t):=fun X h=>UAt.grown hp h rk dd
 have M0:=fun W=>yG (n:=0) dd zG W
 have MA:∀ i,i<f.t.length->∀ f2 W,Row W bc (.cells #[.bool f2] 77)->Calls prog 65 #[.pointer (some ⟨bc,0,none⟩),Q (trD f.t i).c] W (QIs (vj (trD f.t i).c) W):=fun i hi f2 W h=>jbv bc f2 (dg.t _ (yk hi)) W h
 have MS:∀ i,i<f.t.length->∀ W,Row W bc (.cells #[.bool (fl||(qR f.t i).isNone)] 77)->Calls prog 63 #[.pointer (some ⟨bc,0,none⟩),.agg #[.string (o1 (qR f.t i)),.string (o2 (qR f.t i))],Q (vj (trD f.t i).c)] W (CalcR bc (fl||(qR f.t (i+1)).isNone) (qR f.t (i+1)) W):=fun i hi W h=>by have:=yam bc _ (qb4 f.t i) (Cc (vD (dg.t _ (yk hi)))) W h;rw[Ed,qbt]at this;exact this
 have ML:∀ W,Row W bc (.cells #[.bool (fl||(qR f.t f.t.length).isNone)] 77)->Calls prog 63 #[.pointer (some ⟨bc,0,none⟩),.agg #[.string (o1 (qR f.t f.t.length)),.string (o2 (qR f.t f.t.length))],Q f.r] W (CalcR bc (fl||(yU f).isNone) (yU f) W):=fun W h=>by have:=yam bc _ (qb4 f.t f.t.length) (Cc dg.r) W h;rw[Ed,qbt]at this;exact this
 have rk0:Row w bc (.cells #[.bool (fl||(qR f.t 0).isNone)] 77):=by rw[show(fl||(qR f.t 0).isNone)=fl by simp[qR]];exact rk
 clear rk;have rk:=rk0;clear rk0;have e0:Q 0=.agg #[.string (o1 (qR f.t 0)),.string (o2 (qR f.t 0))]:=rfl;unfold QIs at M0;rw[e0]at M0;clear e0;unfold CalcR at *;unfold QIs at *;unfold Q at *;generalize yU f=r at *;obtain⟨n,hn⟩:=yH f;rw[hn]at hlen MA MS ML ⊢;have hnI:(n:Int)<=1000000:=oo
 have HN:=hid hn;clear hp hn dg;have sk:=jz rk;go_enter func43,ntmps43;go_wp2_with fail;have dk_f:bc<w.heap.size:=oo
 have dk_o:bc<w.heap.size+1:=oo
 have d0_o:w.heap.size<=w.heap.size+1:=by have:=hB.size;omega
 have sB:=hB.size;refine za (fun X=>w.grownBy X (some bc)/\Row X bc (.cells #[.bool (fl||(qR f.t 0).isNone)] 77)/\Row X w.heap.size (.cells #[.string z1,.string z2,.slice p n c,.string (S f.r.num),.string (S (f.r.den:Int))] 26)/\Row X (w.heap.size+1) oR0) ⟨GW,RW8,RW8,RW8⟩ ?_;clear rk sk hB sB;rintro V1⟨hB,rk,rf,ro⟩;have sk:=jz rk;have sf:=RF5 rf;have so:=vd ro;refine(M0 _).mono ?_;rintro e W2⟨rfl,h1⟩;have stp:=Sg3 hB h1 rk rf ro;clear hB h1 rk sk rf sf ro so;obtain⟨hB,rk,rf,ro⟩:=stp;have sk:=jz rk;have sf:=RF5 rf;have so:=vd ro;go_wp2_with fail;have dk_s:bc<W2.heap.size:=oo
 have df_s:w.heap.size<W2.heap.size:=oo
 have do_s:w.heap.size+1<W2.heap.size:=oo
 have d0_s:w.heap.size<=W2.heap.size:=by have:=hB.size;omega
 have sB:=hB.size;refine zi (fun X=>w.grownBy X (some bc)/\Row X bc (.cells #[.bool (fl||(qR f.t 0).isNone)] 77)/\Row X w.heap.size (.cells #[.string z1,.string z2,.slice p n c,.string (S f.r.num),.string (S (f.r.den:Int))] 26)/\Row X (w.heap.size+1) oR0/\Row X W2.heap.size (.cells #[.string (o1 (qR f.t 0)),.string (o2 (qR f.t 0))] 23)) ⟨GW,RW8,RW8,RW8,RW8⟩ ?_;clear rk sk rf sf ro so hB sB;rintro V3⟨hB,rk,rf,ro,rs⟩;have sk:=jz rk;have sf:=RF5 rf;have so:=vd ro;have ss:=vd rs;clear sk sf so ss;go_loopw[6] (fun v6 wr=>∃ i:Nat,v6=.int .i64 (i:Int)/\i<=n/\w.grownBy wr (some bc)/\Row wr bc (.cells #[.bool (fl||(qR f.t i).isNone)] 77)/\Row wr w.heap.size (.cells #[.string z1,.string z2,.slice p n c,.string (S f.r.num),.string (S (f.r.den:Int))] 26)/\Row wr (w.heap.size+1) oR0/\Row wr W2.heap.size (.cells #[.string (o1 (qR f.t i)),.string (o2 (qR f.t i))] 23)) (fun v6 _=>(n-RowKit.intOf v6).toNat)
 case atStart=>exact⟨0,rfl,oo,hB,rk,rf,ro,rs⟩
 case round =>
  clear hB rk rf ro rs;obtain⟨i,rfl,hin,hB,rk,rf,ro,rs⟩:=hrel;have sk:=jz rk;have sf:=RF5 rf;have so:=vd ro;have ss:=vd rs;rcases AJ i n with hlt|hge
  ·have hlt':i<f.t.length:=by rw[HN.out];exact hlt
   have hlI:(i:Int)<(n:Int):=oo
   have MA:=MA i hlt;have MS:=MS i hlt;obtain⟨t,ht⟩:∃ t,t=trD f.t i:=⟨_,rfl⟩
   rw[<- ht]at MA MS;obtain⟨g,gcur,rfl,rg,g0,g1,g2⟩:=Cd (HPW _ hB) hlt';rw[<- ht]at g0 g1 g2;clear ht;have Fg:=Eo rg g0 g1 g2
   have sg:=Fg _ rg;have ngk:g≠bc:=yS rg rk dd;generalize vj t.c=y at *;clear hlt';go_upto_region 5 with fail;go_wp2_with fail;refine jj 10 [.val (.pointer (some ⟨bc,0,none⟩)),.val (.agg #[.string (o1 (qR f.t i)),.string (o2 (qR f.t i))]),.val (.pointer (some ⟨bc,0,none⟩)),.val (.pointer (some ⟨w.heap.size,2,none⟩)),.val (.slice (some ⟨g,0,none⟩) n c),.val (.int .i64 (i:Int)),.val (.pointer (some ⟨g,i*3,none⟩)),.val (.pointer (some ⟨g,i*3+1,none⟩)),.val (Ac t.c),.val (Ac y)] [] kr9 kr9 rfl trivial (iC qi0 (iC (qi1 fun X h=>vd (Ae rs h)) (iC qi0 (iC qi0 (iC (qi1 fun X h=>RF5 (Ae rf h)) (iC qi0 (iC (qif hlI) (iC qi0 (iC (qi1 fun X h=>Fg X (Ae rg h)) (iC (qi2 fun X h=>MA (fl||(qR f.t i).isNone) X (Ae rk h)) trivial)))))))))) ?_;rintro W h1;have stp:=Sg5 hB h1 rk rf ro rs rg;clear hB h1 rk sk rf sf ro so rs ss rg sg;obtain⟨hB,rk,rf,ro,rs,rg⟩:=stp;have sk:=jz rk;have sf:=RF5 rf;have so:=vd ro;have ss:=vd rs;have sg:=Fg _ rg;simp only[je,Ah,Ak,Al,AB,AI,AC,AH];intro _;go_wp2_with fail;refine(MS _ (by exact rk)).mono ?_;rintro e W4⟨rfl,rk9,hg⟩;have stp:=Sh4 hB hg rf ro rs rg;clear hB hg rk sk rf sf ro so rs ss rg sg
   obtain⟨hB,rf,ro,rs,rg⟩:=stp;have rk:=rk9;clear rk9;have sk:=jz rk;have sf:=RF5 rf;have so:=vd ro;have ss:=vd rs;have sg:=Fg _ rg;go_wp2;go_roundw
   case rel=>exact⟨i+1,by go_num,oo,GW,RW8,RW8,RW8,RW8⟩
   case measure=>exact El
  ·obtain rfl:n=i:=oo
   clear MA MS;go_wp2_with fail;refine(ML _ rk).mono ?_;rintro e W4⟨rfl,rk9,hg⟩;have stp:=Sh3 hB hg rf ro rs;clear hB hg rk sk rf sf ro so rs ss;obtain⟨hB,rf,ro,rs⟩:=stp;have rk:=rk9;clear rk9;have sk:=jz rk;have sf:=RF5 rf;have so:=vd ro;have ss:=vd rs;go_wp2_with fail;have sB:=hB.size;refine vc (fun X=>w.grownBy X (some bc)/\Row X bc (.cells #[.bool (fl||r.isNone)] 77)/\Row X w.heap.size (.cells #[.string z1,.string z2,.slice p n c,.string (S f.r.num),.string (S (f.r.den:Int))] 26)/\Row X (w.heap.size+1) (.cells #[.string (o1 r),.string (o2 r)] 23)/\Row X W2.heap.size (.cells #[.string (o1 (qR f.t n)),.string (o2 (qR f.t n))] 23)) ⟨GW,RW8,RW8,RW8,RW8⟩ ?_;clear rk sk rf sf ro so rs ss hB sB;rintro V5⟨hB,rk,rf,ro,rs⟩;have sk:=jz rk;have sf:=RF5 rf;have so:=vd ro;have ss:=vd rs;refine bodyPost_ret (v:=.agg #[.string (o1 r),.string (o2 r)]) ?res rfl ⟨rfl,rk,hB⟩
   case res=>simp[results,results43,go_sem,so]
def vaO(bc:Nat)(f:Bool)(x y:Option Rat)(w:World)(e:Ending)(w':World):Prop:=∃ Y z,((f=true/\Y=kW/\z=80)\/(f=false/\Y=⟨o1 x,o2 x,o1 y,o2 y⟩/\z=0))/\e=.returned (.tuple #[.agg #[.string Y.l1,.string Y.l2,.string Y.h1,.string Y.h2],.int .i64 z])/\w.grownBy w' (some bc)
theorem ja8(bc:Nat)(fl:Bool){m b:Option Rat}(hm:OD m)(hb:OD b)(w:World)(rk:Row w bc (.cells #[.bool fl] 77)):Calls prog 42 #[.pointer (some ⟨bc,0,none⟩),.agg #[.string (o1 m),.string (o2 m)],.agg #[.string (o1 b),.string (o2 b)]] w (vaO bc ((fl||(jap m b).isNone)||(yv m b).isNone) (jap m b) (yv m b) w):=by
 have hB:w.grownBy w (some bc):=World.grownBy.refl _ _;have hbc:=rk.1;have M1:=fun W (h:Row W bc (.cells #[.bool fl] 77))=>ycu bc fl hm hb W h
 have M2:=fun W (h:Row W bc (.cells #[.bool (fl||(jap m b).isNone)] 77))=>yam bc (fl||(jap m b).isNone) hm hb W h
 unfold CalcR at *;generalize hx:jap m b=x at *;generalize hy:yv m b=y at *;clear hx hy;generalize (fl||x.isNone)=f1 at *;generalize (f1||y.isNone)=f2 at *;generalize o1 m=m1 at *;generalize o2 m=m2 at *;generalize o1 b=b1 at *;generalize o2 b=b2 at *;clear hm hb;have sk:=jz rk;go_enter func42,ntmps42;go_upto_region 1 with fail;have dk_m:bc<w.heap.size:=oo
 have dk_b:bc<w.heap.size+1:=oo
 have dk_o:bc<w.heap.size+1+1:=oo
 have d0_o:w.heap.size<=w.heap.size+1+1:=by have:=hB.size;omega
 have sB:=hB.size;refine zi (fun X=>w.grownBy X (some bc)/\Row X bc (.cells #[.bool fl] 77)/\Row X w.heap.size (.cells #[.string m1,.string m2] 23)/\Row X (w.heap.size+1) (.cells #[.string b1,.string b2] 23)/\Row X (w.heap.size+1+1) oI0) ⟨GW,RW8,RW8,RW8,RW8⟩ ?_;clear rk sk hB sB;rintro V1⟨hB,rk,rm,rb,ro⟩;have sk:=jz rk;have sm:=RF2 rm;have sb:=RF2 rb;have so:=kn ro;have l_k:=rk.1;have l_m:=rm.1;have l_b:=rb.1;have l_o:=ro.1;have l_W:=hB.size;refine Code.wp_mono (Q:=fun ex ac wx=>ex=.normal/\∃(vv:Nat) (u9 u10 u11 u12 u13 u14 u15 u16 u17:Value),ac={ tmps:=#[.pointer (some ⟨bc,0,none⟩),.agg #[.string m1,.string m2],.agg #[.string b1,.string b2],undef,.pointer (some ⟨w.heap.size,0,none⟩),.pointer (some ⟨w.heap.size+1,0,none⟩),.pointer (some ⟨w.heap.size+1+1,0,none⟩),.int .i64 0,.pointer (some ⟨vv,0,none⟩),u9,u10,u11,u12,u13,u14,u15,u16,u17,undef,undef,undef,undef,undef,undef],defers:=[] }/\w.grownBy wx (some bc)/\Row wx bc (.cells #[.bool f2] 77)/\Row wx w.heap.size (.cells #[.string m1,.string m2] 23)/\Row wx (w.heap.size+1) (.cells #[.string b1,.string b2] 23)/\Row wx (w.heap.size+1+1) oI0/\Row wx vv (.cells #[.string (o1 x),.string (o2 x),.string (o1 y),.string (o2 y)] 44)/\V1.heap.size<=vv) ?rest ?first
 case first =>
  have sB:=hB.size;have KK:∀ X,Row X w.heap.size (.cells #[.string m1,.string m2] 23)->Row X (w.heap.size+1) (.cells #[.string b1,.string b2] 23)->(X.cell? ⟨w.heap.size,0,none⟩=some (.string m1)/\X.cell? ⟨w.heap.size,1,none⟩=some (.string m2)/\X.cell? ⟨w.heap.size+1,0,none⟩=some (.string b1)/\X.cell? ⟨w.heap.size+1,1,none⟩=some (.string b2)):=fun X hm hb=>⟨Af hm 0 rfl,Af hm 1 rfl,Af hb 0 rfl,Af hb 1 rfl⟩
  clear sk sm sb so;go_region_held3 (fun X=>X.cell? ⟨w.heap.size,0,none⟩=some (.string m1)/\X.cell? ⟨w.heap.size,1,none⟩=some (.string m2)/\X.cell? ⟨w.heap.size+1,0,none⟩=some (.string b1)/\X.cell? ⟨w.heap.size+1,1,none⟩=some (.string b2)) (first|exact KK _ RW8 RW8) (first
      | (go_at_call 100;have q_k:=rk.1;refine(M1 _ (by first|exact rk|exact AX rk|exact AN rk _|exact AX (AN rk _))).mono ?_;rintro e W⟨rfl,rk9,hg⟩;(try replace hg:=jh hg);have q_s:=hg.size;(first|(replace hB:=kj hB hg;(try (replace hv9:=Aw hv9 hg oo;have sv9:=kn hv9)))|(have hv9:=Aw (qp _ _) hg oo;have sv9:=kn hv9;replace hB:=kj (vT hB _) hg));(first|replace rm:=Aw rm hg oo|replace rm:=Aw (AN rm _) hg oo);(first|replace rb:=Aw rb hg oo|replace rb:=Aw (AN rb _) hg oo);(first|replace ro:=Aw ro hg oo|replace ro:=Aw (AN ro _) hg oo);replace rk:=rk9)
      | (go_at_call 63;have q_k:=rk.1;refine(M2 _ (by first|exact rk|exact AX rk|exact AN rk _|exact AX (AN rk _))).mono ?_;rintro e W⟨rfl,rk9,hg⟩;(try replace hg:=jh hg);have q_s:=hg.size;(first|(replace hB:=kj hB hg;(try (replace hv9:=Aw hv9 hg oo;have sv9:=kn hv9)))|(have hv9:=Aw (qp _ _) hg oo;have sv9:=kn hv9;replace hB:=kj (vT hB _) hg));(first|replace rm:=Aw rm hg oo|replace rm:=Aw (AN rm _) hg oo);(first|replace rb:=Aw rb hg oo|replace rb:=Aw (AN rb _) hg oo);(first|replace ro:=Aw ro hg oo|replace ro:=Aw (AN ro _) hg oo);replace rk:=rk9))
  all_goals exact⟨rfl,_,_,_,_,_,_,_,_,_,_,rfl,GW,RW8,RW8,RW8,RW8,RW8,(by first|omega|(simp;omega))⟩
 case rest =>
  clear hB rk rm rb ro;rintro ex ac wx⟨rfl,vv,u9,u10,u11,u12,u13,u14,u15,u16,u17,rfl,hB,rk,rm,rb,ro,rv,hvv⟩;have dk_v:bc<vv:=oo
  have dm_v:w.heap.size<vv:=oo
  have db_v:w.heap.size+1<vv:=oo
  have do_v:w.heap.size+1+1<vv:=oo
  have d0_v:w.heap.size<=vv:=oo
  have sk:=jz rk;have sm:=RF2 rm;have sb:=RF2 rb;have so:=kn ro;have sv:=kn rv
  cases f2 with
  | true =>
   go_wp2_with fail;have sB:=hB.size;refine vc (fun X=>w.grownBy X (some bc)/\Row X bc (.cells #[.bool true] 77)/\Row X (w.heap.size+1+1) oI0/\Row X vv (.cells #[.string (o1 x),.string (o2 x),.string (o1 y),.string (o2 y)] 44)) ⟨GW,RW8,RW8,RW8⟩ ?_;clear rk sk rm sm rb sb ro so rv sv hB sB;rintro V3⟨hB,rk,ro,rv⟩;have sk:=jz rk;have so:=kn ro;have sv:=kn rv;refine bodyPost_ret (v:=.tuple #[.agg #[.string ⟨#[]⟩,.string ⟨#[]⟩,.string ⟨#[]⟩,.string ⟨#[]⟩],.int .i64 80]) ?res rfl ⟨kW,80,.inl ⟨rfl,rfl,rfl⟩,rfl,hB⟩
   case res=>simp[results,results42,go_sem,so]
  | false =>
   go_wp2_with fail;have sB:=hB.size;refine vc (fun X=>w.grownBy X (some bc)/\Row X bc (.cells #[.bool false] 77)/\Row X (w.heap.size+1+1) (.cells #[.string (o1 x),.string (o2 x),.string (o1 y),.string (o2 y)] 44)/\Row X vv (.cells #[.string (o1 x),.string (o2 x),.string (o1 y),.string (o2 y)] 44)) ⟨GW,RW8,RW8,RW8⟩ ?_;clear rk sk rm sm rb sb ro so rv sv hB sB;rintro V3⟨hB,rk,ro,rv⟩;have sk:=jz rk;have so:=kn ro;have sv:=kn rv;refine bodyPost_ret (v:=.tuple #[.agg #[.string (o1 x),.string (o2 x),.string (o1 y),.string (o2 y)],.int .i64 0]) ?res rfl ⟨⟨o1 x,o2 x,o1 y,o2 y⟩,0,.inr ⟨rfl,rfl,rfl⟩,rfl,hB⟩
   case res=>simp[results,results42,go_sem,so]
end Go.Proofs.YtdiecekagiledaaGreatDoor
namespace Go.Proofs.YtdiecekagiledaaGreatDoor
open Go Go.Lib
theorem MulF.made{a b:Frm}(ha:FGr 4 80 a)(hb:FGr 4 80 b)(oa:a.Ok)(ob:b.Ok)(la:a.t.length<=5)(lb:b.t.length<=5):MulF a b:=by
 have da:FDig 9 a:=ha.dig dd dd dd;have db:FDig 9 b:=hb.dig dd dd dd;have ra:=jbw ha (n:=6) oo;have rb:=jbw hb (n:=6) oo;have e9:QDig 9 (rad a):=ra.dig dd dd dd;have f9:QDig 9 (rad b):=rb.dig dd dd dd;have s9:QDig 9 (vj b.c*a.r+vj a.c*b.r):=((hb.c.abs.mul ha.r).add (ha.c.abs.mul hb.r)).dig dd dd dd;have p9:QDig 9 (rad a*rad b):=(ra.mul rb).dig dd dd dd;exact⟨LinF.of db.c da.c da db dd (vab oa ob oo),DS da.c db.c dd,RadF.of ha (n:=6) oo dd (by decide +kernel) (by decide +kernel),RadF.of hb (n:=6) oo dd (by decide +kernel) (by decide +kernel),DS e9 f9 dd,Ct s9 p9 dd⟩
theorem RangeF.made{f:Frm}(h:FGr 4 80 f)(lf:f.t.length<=5):RangeF f:=RangeF.of h (n:=6) oo dd (by decide +kernel) (by decide +kernel)
theorem ya2{d m:Nat}{l:List Trm}(h:∀ p,p∈l->Gr d m p.c)(id:Nat):Gr d m (cf l id):=by
 unfold cf
 cases e:ky l id with
 | none=>exact(Gr.zero d).mono (Bt _)
 | some v=>obtain⟨p,hp,-,rfl⟩:=zay e;exact h p hp
theorem jbr{d m e s:Nat}{a b ss:List Trm}(ha:∀ p,p∈a->Gr d m p.c)(hb:∀ p,p∈b->Gr e s p.c)(hs:∀ p,p∈ss->Gr 8 8 p.c):∀ k,k<=ss.length->Gr (d*e*8) (k*(m*s*8)) (vB a b ss k)
 | 0,_=>(Gr.zero _).mono (Bt _)
 | k+1,hk=>by
  have i1:=jbr ha hb hs k oo;exact(i1.add (((ya2 ha _).mul (ya2 hb _)).mul (hs _ (yk (show k<ss.length by omega))))).mono (Nat.le_of_eq (DV _ _).symm)
theorem CovF.of{d m e s:Nat}{a b ss:List Trm}(ha:∀ p,p∈a->Gr d m p.c)(hb:∀ p,p∈b->Gr e s p.c)(hs:∀ p,p∈ss->Gr 8 8 p.c)(ls:ss.length<=6)(hd:0<d)(he:0<e)
  (h1:d<10^9) (h2:m<10^9) (h3:e<10^9) (h4:s<10^9) (h5:d*e<10^9) (h6:m*s<10^9) (h7:d*e*8<10^9) (h8:6*(m*s*8)<10^9):CovF a b ss:=by
 have hp:=Nat.mul_pos hd he;refine⟨fun k hk=>DS (j:=9) (k:=9) ((ya2 ha _).dig hd h1 h2) ((ya2 hb _).dig he h3 h4) dd,fun k hk=>DS (j:=9) (k:=9) (((ya2 ha _).mul (ya2 hb _)).dig hp h5 h6) ((hs _ (yk hk)).dig dd dd dd) dd,fun k hk => ?_⟩;have h9:k*(m*s*8)<=6*(m*s*8):=BC _ oo;have h10:m*s*8<=6*(m*s*8):=CB _ dd;exact Ct (j:=9) (k:=9) ((jbr ha hb hs k oo).dig oo h7 oo) ((((ya2 ha _).mul (ya2 hb _)).mul (hs _ (yk hk))).dig oo h7 oo) dd
theorem jcs(x:Nat->Int){k:Nat}(hk:k<=6):ValsOk (vTo x k):=⟨by rw[vb8];omega,jcI x oo,jbo x k,fun p hp=>(ycX x k p hp).dig dd (by decide +kernel) (by decide +kernel)⟩
def dot(l vs:List Trm):Nat->Rat
 | 0=>0
 | k+1=>dot l vs k+cf l (trD vs k).s*(trD vs k).c
theorem zbR{l:List Trm}{t:Trm}(h:∀ p,p∈l->p.s≠t.s)(id:Nat):cf (l++[t]) id=cf l id+(if t.s=id then t.c else 0):=by
 induction l with
 | nil=>rw[Co,yy,zZ,Rat.zero_add]
 | cons x l ih =>
  rw[BM,yy,yy,ih (fun p hp=>h p (Bx _ hp))];split
  ·rename_i he;have:=h x (CN ..);rw[if_neg oo,Rat.add_zero]
  ·rfl
theorem vbr{l vs:List Trm}{t:Trm}(h:∀ p,p∈l->p.s≠t.s)(hv:SrcOk vs):∀ k,k<=vs.length->dot (l++[t]) vs k=dot l vs k+t.c*cf (vs.take k) t.s
 | 0,_=>by unfold dot;rw[AI,zZ];grind
 | k+1,hk=>by
  unfold dot;rw[vbr h hv k oo,zbR h,vaY oo,zbR (t:=trD vs k) (fun p hp e => ?_)]
  ·by_cases e:t.s=(trD vs k).s
   ·rw[if_pos e,if_pos e.symm];grind
   ·rw[if_neg e,if_neg (fun h=>e h.symm)];grind
  ·obtain⟨i,hi,rfl⟩:=CW hp;rw[Bu]at hi;rw[List.getElem_take,<- vN oo]at e;have:=hv.lt (show i<k by omega) oo;omega
theorem ycD{vs:List Trm}{id:Nat}{v:Rat}(h:ky vs id=some v):cf vs id=v:=by unfold cf;rw[h];rfl
def vaZ(vs l:List Trm):Prop:=∀ p,p∈l->∃ v,ky vs p.s=some v
theorem jb0{vs l:List Trm}(c:Rat)(hl:SrcOk l)(hv:SrcOk vs)(ha:vaZ vs l):∀ k,k<=l.length->yj vs c l k=c+dot (l.take k) vs vs.length
 | 0,_=>by
  have h0:∀ n,dot [] vs n=0:=fun n=>by induction n with
   | zero=>rfl
   | succ n ih=>unfold dot;rw[ih,zZ];grind
  unfold yj;rw[AI,h0,Rat.add_zero]
 | k+1,hk=>by
  obtain⟨v,e⟩:=ha _ (yk (show k<l.length by omega));rw[qam e,jb0 c hl hv ha k oo,vaY oo,vbr (fun p hp e => ?_) hv _ (Am _),Dx,ycD e]
  ·grind
  ·obtain⟨i,hi,rfl⟩:=CW hp;rw[Bu]at hi;rw[List.getElem_take,<- vN oo]at e;have:=hl.lt (show i<k by omega) oo;omega
theorem jcE{vs l:List Trm}(c:Rat)(hl:SrcOk l)(hv:SrcOk vs)(ha:vaZ vs l):yj vs c l l.length=c+dot l vs vs.length:=by
 rw[jb0 c hl hv ha _ (Am _),Dx]
theorem ybF{vs l:List Trm}(ha:vaZ vs l):ke vs l=[]:=by
 unfold ke;refine List.filter_eq_nil_iff.2 fun p hp => ?_
 obtain⟨v,e⟩:=ha p hp;rw[e];simp
theorem zaS{p q:Rat}{a b s vs:List Trm}(h:∀ id,cf s id=p*cf a id+q*cf b id):∀ k,dot s vs k=p*dot a vs k+q*dot b vs k
 | 0=>by unfold dot;grind
 | k+1=>by unfold dot;rw[zaS h k,h];grind
theorem kbf{vs l:List Trm}(hl:SrcOk l)(hv:SrcOk vs)(ha:vaZ vs l)(hu:kca vs):dot l vs vs.length<=yo l l.length /\ -(yo l l.length)<=dot l vs vs.length:=by
 have h:∀ k,k<=l.length->yj vs 0 l k<=yo l k /\ -(yo l k)<=yj vs 0 l k:=by
  intro k
  induction k with
  | zero=>intro _;show(0:Rat)<=0 /\ -(0:Rat)<=0;grind
  | succ k ih =>
   intro hk;obtain⟨i1,i2⟩:=ih oo;obtain⟨v,e⟩:=ha _ (yk (show k<l.length by omega));obtain⟨u1,u2⟩:=vbY hu e;obtain⟨m1,m2⟩:=ka1 (c:=(trD l k).c) u1 u2;rw[qam e];show _<=yo l k+vj (trD l k).c /\ -(yo l k+vj (trD l k).c)<=_;grind
 have:=h l.length (Am _);rw[jcE 0 hl hv ha]at this;grind
theorem qG{p e r:Rat}(h1 : -r<=e)(h2:e<=r):p*e<=vj p*r /\ -(vj p*r)<=p*e:=by
 by_cases h:p<0
 ·rw[jax h];have a:=Bp h1 (show(0:Rat)<=0-p by grind);have b:=Bp h2 (show(0:Rat)<=0-p by grind);constructor<;>grind
 ·rw[kax (by grind)];have a:=Bp h1 (show(0:Rat)<=p by grind);have b:=Bp h2 (show(0:Rat)<=p by grind);constructor<;>grind
def CanBe(f:Frm)(x v:Rat):Prop:=f.c+x-f.r<=v/\v<=f.c+x+f.r
theorem CanBe.line{a:Frm}{x v g s u w:Rat}(ha:CanBe a x v)(h1:u<=g-s*v)(h2:g-s*v<=w):CanBe (zax s u w a) (s*x+0*0) g:=by
 obtain⟨a1,a2⟩:=ha;obtain⟨m1,m2⟩:=qG (p:=s) (e:=v-(a.c+x)) (r:=a.r) (by grind) (by grind);unfold CanBe zax kC ki;simp only[qbN];constructor<;>grind
def yc7(T:Int)(l:List Trm):List Trm:=(l.map fun t=>(⟨t.s,dn t.c T⟩:Trm)).filter fun t => !decide (t.c=0)
def jaa(T:Int)(c:Rat)(l:List Trm):Nat->Rat
 | 0=>0+(c-dn c T)
 | k+1=>jaa T c l k+((trD l k).c-dn (trD l k).c T)
def kdc(T:Int)(a:Frm):Frm:=⟨dn a.c T,yc7 T a.t,uq (jaa T a.c a.t a.t.length+a.r) T⟩
theorem ycp{T:Int}{l:List Trm}{t:Trm}(h:t∈yc7 T l):t.c≠0/\∃ x,x∈l/\t=⟨x.s,dn x.c T⟩:=by
 unfold yc7 at h;rw[List.mem_filter]at h;obtain⟨h1,h2⟩:=h;obtain⟨x,hx,e⟩:=BR.1 h1;exact⟨by simpa using h2,x,hx,e.symm⟩
theorem vbG{z:Int}{m:Nat}(h1:(z:Rat)<=((m:Int):Rat))(h2 : -((m:Int):Rat)<=(z:Rat)):z.natAbs<=m:=by
 have a:=Bw.1 h1;rw[<- Rat.intCast_neg]at h2;have b:=Bw.1 h2;omega
theorem Gr.bound{d m:Nat}{q:Rat}(h:Gr d m q)(hd:0<d):q<=((m:Int):Rat) /\ -((m:Int):Rat)<=q:=by
 obtain⟨z,h1,h2⟩:=h;have hd':(1:Rat)<=((d:Int):Rat):=by
  have:=Bw.2 (show(1:Int)<=(d:Int) by omega)
  rwa[Dm]at this
 have hm:(0:Rat)<=((m:Int):Rat):=Rat.intCast_nonneg.2 oo;have z1:(z:Rat)<=((m:Int):Rat):=Bw.2 oo;have z2 : -((m:Int):Rat)<=(z:Rat):=by rw[<- Rat.intCast_neg];exact Bw.2 oo
 rw[<- h1]at z1 z2;generalize ((d:Int):Rat)=D at *;generalize ((m:Int):Rat)=M at *;have k:=Bp hd' hm;constructor
 ·by_cases hq:q<=M
  ·exact hq
  ·have:=AT (show M<=q by grind) (show 0<=D by grind);have h3:(q-M)*D > 0:=Eg (by grind) (by grind);have:q*D-M*D > 0:=by grind
   have:=Bp hd' hm;grind
 ·by_cases hq : -M<=q
  ·exact hq
  ·have h3:(-M-q)*D > 0:=Eg (by grind) (by grind);have : -(M*D)-q*D > 0:=by grind
   grind
theorem kb0{z:Int}{d m:Nat}{q:Rat}{T:Nat}(h:Gr d m q)(hd:0<d)(hT:0<T)(h1:(z:Rat)<=q*((T:Int):Rat)+1)(h2:q*((T:Int):Rat)<=(z:Rat)+1):Gr T ((m+1)*T) (Rat.divInt z T):=by
 refine Gr.ofInt hT ?_;obtain⟨b1,b2⟩:=h.bound hd;have hT':(1:Rat)<=((T:Int):Rat):=by
  have:=Bw.2 (show(1:Int)<=(T:Int) by omega)
  rwa[Dm]at this
 have e:(((((m+1)*T:Nat):Int)):Rat)=(((m:Int):Rat)+1)*((T:Int):Rat):=by
  rw[Int.natCast_mul,BF,Int.natCast_add,Dl];simp
 have m1:=AT b1 (show(0:Rat)<=((T:Int):Rat) by grind);have m2:=AT b2 (show(0:Rat)<=((T:Int):Rat) by grind);refine vbG ?_ ?_
 ·rw[e];grind
 ·rw[e];grind
theorem jcg{d m p:Nat}{q:Rat}(h:Gr d m q)(hd:0<d):Gr (10^p) ((m+1)*10^p) (dn q (TT p)):=by
 have s:=qac q (TT p);refine kb0 h hd (Cy dd) ?_ ?_
 ·have:=s.1;unfold TT at this ⊢;grind
 ·have:=s.2;unfold TT at this ⊢;grind
theorem jc8{d m p:Nat}{q:Rat}(h:Gr d m q)(hd:0<d):Gr (10^p) ((m+1)*10^p) (uq q (TT p)):=by
 have s:=kaz q (TT p);refine kb0 h hd (Cy dd) ?_ ?_
 ·have:=s.2;unfold TT at this ⊢;grind
 ·have:=s.1;unfold TT at this ⊢;grind
theorem zbj{m p:Nat}{q:Rat}(h:Gr 4 m q):Gr (4*10^p) ((m+m+1)*10^p*4) (q-dn q (TT p)):=by
 have a:=h.fine (10^p);have b:=((jcg (p:=p) h dd).fine 4).cast (Bq _ _) (Am _);refine(a.sub b).mono ?_;generalize 10^p=T;have:m*T+(m+1)*T*4<=(m+m+1)*T*4:=by
  have e1:(m+1)*T*4=m*T*4+T*4:=by rw[DV,Bv]
  have e2:(m+m+1)*T*4=m*T*4+m*T*4+T*4:=by rw[DV,Bv,Bv,Bv]
  omega
 exact this
theorem qbZ{m p:Nat}{c:Rat}{l:List Trm}(hc:Gr 4 m c)(hl:∀ t,t∈l->Gr 4 m t.c):∀ k,k<=l.length->Gr (4*10^p) ((k+1)*((m+m+1)*10^p*4)) (jaa (TT p) c l k)
 | 0,_=>by unfold jaa;rw[Rat.zero_add,Bj,Nat.one_mul];exact zbj hc
 | k+1,hk=>by
  unfold jaa;refine((qbZ hc hl k oo).add (zbj (hl _ (yk oo)))).mono ?_;rw[DV (k+1)];exact Am _
structure RndF(p:Nat)(a:Frm):Prop where
 dig:FDig 150 a
 pl:p<=30
 sub0:SF a.c (dn a.c (TT p))
 add0:AF 0 (a.c-dn a.c (TT p))
 sub:∀ k,k<a.t.length->SF (trD a.t k).c (dn (trD a.t k).c (TT p))
 add:∀ k,k<a.t.length->AF (jaa (TT p) a.c a.t k) ((trD a.t k).c-dn (trD a.t k).c (TT p))
 last:AF (jaa (TT p) a.c a.t a.t.length) a.r
 up:QDig 150 (jaa (TT p) a.c a.t a.t.length+a.r)
theorem kc6{p:Nat}(hp:p<=30):10^p<=10^30:=Bm dd hp
theorem RndF.of{p:Nat}{a:Frm}(ha:FGr 4 80 a)(hp:p<=30)(la:a.t.length<=5):RndF p a/\FGr (10^p) (10^70) (kdc (TT p) a):=by
 have h1:10^p<=10^30:=kc6 hp;have T0:0<10^p:=Cy dd;have da:FDig 9 a:=ha.dig dd dd dd;have one:∀ {q:Rat},Gr 4 80 q->QDig 40 (dn q (TT p))/\QDig 40 (q-dn q (TT p)):=fun {q} hq=>by
  refine⟨(jcg hq dd).dig T0 oo ?_,(zbj hq).dig oo ?_ ?_⟩<;>omega
 have lost:∀ k,k<=a.t.length->Gr (4*10^p) (10^36) (jaa (TT p) a.c a.t k):=fun k hk=>(qbZ ha.c ha.t k hk).mono (by
  have:(k+1)*((80+80+1)*10^p*4)<=6*((80+80+1)*10^p*4):=BC _ oo;omega)
 have ld:∀ k,k<=a.t.length->QDig 40 (jaa (TT p) a.c a.t k):=fun k hk=>(lost k hk).dig oo oo oo
 have gl:Gr (4*10^p) (10^37) (jaa (TT p) a.c a.t a.t.length+a.r):=((lost _ (Am _)).add (ha.r.fine (10^p))).mono oo;have d0:QDig 9 0:=qd (by decide +kernel);have dc:=one ha.c;refine⟨⟨da.mono dd,hp,SF.of da.c dc.1 dd,Ct d0 dc.2 dd,fun k hk => ?_,fun k hk => ?_,Ct (ld _ (Am _)) da.r dd,(gl.dig (k:=40) oo oo oo).mono dd⟩,⟨(jcg ha.c dd).mono oo,fun t ht => ?_,?_⟩⟩
 ·have:=ha.t _ (yk hk);exact SF.of (da.t _ (yk hk)) (one this).1 dd
 ·have:=ha.t _ (yk hk);exact Ct (ld k oo) (one this).2 dd
 ·obtain⟨_,x,hx,rfl⟩:=ycp ht;exact(jcg (ha.t x hx) dd).mono oo
 ·exact(jc8 gl oo).mono (by
   have:(10^37+1)*10^p<=(10^37+1)*10^30:=CX _ h1;omega)
theorem CanBe.comb{a b:Frm}{x y v w p q:Rat}(ha:CanBe a x v)(hb:CanBe b y w):CanBe (kC p q a b) (p*x+q*y) (p*v+q*w):=by
 obtain⟨a1,a2⟩:=ha;obtain⟨b1,b2⟩:=hb;obtain⟨m1,m2⟩:=qG (p:=p) (e:=v-(a.c+x)) (r:=a.r) (by grind) (by grind);obtain⟨n1,n2⟩:=qG (p:=q) (e:=w-(b.c+y)) (r:=b.r) (by grind) (by grind);unfold CanBe kC;constructor<;>grind
theorem CanBe.mul{a b:Frm}{x y v w:Rat}(ha:CanBe a x v)(hb:CanBe b y w)(hx:x<=yo a.t a.t.length /\ -(yo a.t a.t.length)<=x)(hy:y<=yo b.t b.t.length /\ -(yo b.t b.t.length)<=y):CanBe (zca a b) (b.c*x+a.c*y) (v*w):=by
 obtain⟨a1,a2⟩:=ha;obtain⟨b1,b2⟩:=hb;obtain⟨x1,x2⟩:=hx;obtain⟨y1,y2⟩:=hy;obtain⟨m1,m2⟩:=qG (p:=b.c) (e:=v-(a.c+x)) (r:=a.r) (by grind) (by grind);obtain⟨n1,n2⟩:=qG (p:=a.c) (e:=w-(b.c+y)) (r:=b.r) (by grind) (by grind);have r0:0<=rad a:=by unfold rad;grind
 have e1:v-a.c<=rad a /\ -(rad a)<=v-a.c:=by unfold rad;constructor<;>grind
 have e2:w-b.c<=rad b /\ -(rad b)<=w-b.c:=by unfold rad;constructor<;>grind
 obtain⟨k1,k2⟩:=qG (p:=v-a.c) (e:=w-b.c) (r:=rad b) e2.2 e2.1;have k3:vj (v-a.c)*rad b<=rad a*rad b:=by
  refine AT ?_ (by grind);by_cases h:v-a.c<0
  ·rw[jax h];grind
  ·rw[kax (by grind)];grind
 unfold CanBe zca;constructor<;>grind
def Fit(vs:List Trm)(f:Frm)(v:Rat):Prop:=CanBe f (dot f.t vs vs.length) v
theorem qaS(vs:List Trm):∀ k,dot [] vs k=0
 | 0=>rfl
 | k+1=>by unfold dot;rw[qaS vs k,zZ];grind
theorem Fit.const(vs:List Trm)(q:Rat):Fit vs (ki q) q:=by
 show CanBe (ki q) (dot [] vs vs.length) q;rw[qaS];unfold CanBe ki;simp only;grind
theorem Fit.comb{vs:List Trm}{a b:Frm}{p q v w:Rat}(sa:SrcOk a.t)(sb:SrcOk b.t)(ha:Fit vs a v)(hb:Fit vs b w):Fit vs (kC p q a b) (p*v+q*w):=by
 have e:dot (kC p q a b).t vs vs.length=p*dot a.t vs vs.length+q*dot b.t vs vs.length:=zaS (fun id=>ybt sa sb id) _;unfold Fit;rw[e];exact CanBe.comb ha hb
theorem Fit.scale{vs:List Trm}{a:Frm}{p v:Rat}(sa:SrcOk a.t)(ha:Fit vs a v):Fit vs (kC p 0 a (ki 0)) (p*v):=by
 have:=Fit.comb (p:=p) (q:=0) sa (b:=ki 0) DY ha (Fit.const vs 0)
 rwa[show p*v+0*0=p*v by grind]at this
theorem Fit.line{vs:List Trm}{a:Frm}{v g s u w:Rat}(sa:SrcOk a.t)(ha:Fit vs a v)(h1:u<=g-s*v)(h2:g-s*v<=w):Fit vs (zax s u w a) g:=by
 have e:dot (zax s u w a).t vs vs.length=s*dot a.t vs vs.length+0*0:=by
  have:=zaS (p:=s) (q:=0) (a:=a.t) (b:=[]) (s:=(kC s 0 a (ki 0)).t) (vs:=vs) (fun id=>ybt sa DY id) vs.length;rw[qaS]at this;exact this
 unfold Fit;rw[e];exact CanBe.line ha h1 h2
theorem Fit.range{vs:List Trm}{a:Frm}{v:Rat}(sa:SrcOk a.t)(hv:ValsOk vs)(al:vaZ vs a.t)(h:Fit vs a v):(yh a).lo<=v/\v<=(yh a).hi:=by
 obtain⟨d1,d2⟩:=kbf sa hv.src al hv.unit;obtain⟨h1,h2⟩:=h;show a.c-rad a<=v/\v<=a.c+rad a;unfold rad;constructor<;>grind
theorem Fit.mul{vs:List Trm}{a b:Frm}{v w:Rat}(hv:ValsOk vs)(sa:SrcOk a.t)(sb:SrcOk b.t)(aa:vaZ vs a.t)(ab:vaZ vs b.t)(ha:Fit vs a v)(hb:Fit vs b w):Fit vs (zca a b) (v*w):=by
 have e:dot (zca a b).t vs vs.length=b.c*dot a.t vs vs.length+a.c*dot b.t vs vs.length:=zaS (fun id=>ybt sa sb id) _;unfold Fit;rw[e];exact CanBe.mul ha hb (kbf sa hv.src aa hv.unit) (kbf sb hv.src ab hv.unit)
open Go.RowKit Go.Shelf
theorem Row.lt{W:World}{b:Nat}{o:Obj}(h:Row W b o):b<W.heap.size:=h.1
end Go.Proofs.YtdiecekagiledaaGreatDoor
namespace Go.Proofs.YtdiecekagiledaaGreatDoor
open Go Go.RowKit Go.Lib Go.Shelf Go.Proofs.Tryz
attribute [local go_sem] yg
theorem qbE{l:List Trm}(h:SrcOk l){id:Nat}{v:Rat}(e:ky l id=some v):∃ k,k<l.length/\(trD l k).s=id/\(trD l k).c=v/\∀ i,i<k->(trD l i).s≠id:=by
 obtain⟨p,hp,h1,h2⟩:=zay e;obtain⟨k,hk,rfl⟩:=CW hp;rw[<- vN hk]at h1 h2;exact⟨k,hk,h1,h2,fun i hi e2=>by have:=h.lt hi hk;omega⟩
structure At8F(j:Nat)(f:Frm)(vs:List Trm):Prop where
 le:j<=60
 t:∀ k,k<f.t.length->QDig j (trD f.t k).c
 v:∀ k,k<vs.length->QDig j (trD vs k).c
 m:∀ k,k<=f.t.length->QDig j (yj vs f.c f.t k)
 r:QDig j f.r
theorem At8F.at{j:Nat}{f:Frm}{vs:List Trm}(al:vaZ vs f.t):atI f vs=⟨yj vs f.c f.t f.t.length-(0+f.r),yj vs f.c f.t f.t.length+(0+f.r)⟩:=by
 unfold atI;rw[ybF al];have:rad ⟨0,[],f.r⟩=0+f.r:=rfl;rw[this]
theorem kcF{l:List Trm}{k id n:Nat}(hkl:k<=n)(hk1:k<n->(trD l k).s=id)(hlo:∀ i,i<k->(trD l i).s≠id)(p:En)(c:Nat)(hn:l.length=n)(hn1:n<=100000)(w:World)(hp:TAt 34 w p l):Calls prog 62 #[.slice p n c,.int .i64 (id:Int)] w (kM (if k<n then(k:Int) else -1) w):=by
 have hB:=Ab w;have HP:=hid hp;have hnI:(n:Int)<=100000:=oo
 have HN:=hid hn;unfold kM;clear hp hn;go_enter func62,ntmps62;go_wp2_with fail;go_loopw[5] (fun v5 wr=>∃ i:Nat,v5=.int .i64 (i:Int)/\i<=k/\Aa w wr) (fun v5 _=>(k-RowKit.intOf v5).toNat)
 case atStart=>exact⟨0,rfl,Bt _,hB⟩
 case round =>
  clear hB;obtain⟨i,rfl,hik0,hB⟩:=hrel;rcases AJ i n with hlt2|hge
  ·have hlt:i<l.length:=by rw[HN.out];exact hlt2
   have hin2:(i:Int)<(n:Int):=oo
   obtain⟨x,hx⟩:∃ x,x=trD l i:=⟨_,rfl⟩
   have hno:=hlo i;rw[<- hx]at hno;have hyes:i=k->x.s=id:=fun e=>by rw[hx,e];exact hk1 oo
   obtain⟨g,gcur,rfl,rg,g0,g1,g2⟩:=Cd (Ai HP.out hB) hlt;rw[<- hx]at g0 g1 g2;clear hx;have Fg:=Eo rg g0 g1 g2
   have sg:=Fg _ rg;rcases AJ i k with hik|hik
   ·have hne:((x.s:Int)==(id:Int))=false:=by have:=hno hik;simp;omega
    have hne2:¬ ((x.s:Int)=(id:Int)):=by have:=hno hik;omega
    clear hno hyes;go_wp2;go_roundw
    case rel=>exact⟨i+1,by go_num,oo,BW⟩
    case measure=>exact El
   ·obtain rfl:i=k:=oo
    have hid2:=hyes rfl;subst hid2;have HIF:=hid (if_pos hlt2:(if i<n then(i:Int) else -1)=(i:Int));clear hno hyes;go_wp2;go_ret;exact⟨by first|rfl|rw[HIF.out],hB⟩
  ·obtain rfl:n=i:=oo
   have HIF:=hid (if_neg oo:(if k<n then(k:Int) else -1) = -1);go_wp2;go_ret;exact⟨by first|rfl|rw[HIF.out],hB⟩
theorem jbE{l:List Trm}(h:SrcOk l)(id:Nat):∃ k,k<=l.length/\(k<l.length->(trD l k).s=id)/\(∀ i,i<k->(trD l i).s≠id)/\ky l id=if k<l.length then some (trD l k).c else none:=by
 cases e:ky l id with
 | none =>
  refine⟨l.length,Am _,fun h=>absurd h (Nat.lt_irrefl _),fun i hi=>kal.1 e _ (yk hi),?_⟩;rw[if_neg (Nat.lt_irrefl _)]
 | some v =>
  obtain⟨k,hk,h1,h2,h3⟩:=qbE h e;exact⟨k,Ch hk,fun _=>h1,h3,by rw[if_pos hk,h2]⟩
def zR(vs:List Trm)(c:Rat)(l:List Trm):Nat->Option Rat
 | 0=>some c
 | k+1=>match ky vs (trD l k).s with
  | some v=>yv (zR vs c l k) (zv (some (trD l k).c) (some v))
  | none=>zR vs c l k
def byX(vs l:List Trm):Nat->Option Rat
 | 0=>some 0
 | k+1=>match ky vs (trD l k).s with
  | some _=>byX vs l k
  | none=>yv (byX vs l k) (some (vj (trD l k).c))
theorem jay{vs l:List Trm}{c v:Rat}{k:Nat}(h:ky vs (trD l k).s=some v):zR vs c l (k+1)=yv (zR vs c l k) (zv (some (trD l k).c) (some v)):=by
 show(match ky vs (trD l k).s with|some v=>_|none=>_)=_;rw[h]
theorem vaU{vs l:List Trm}{c:Rat}{k:Nat}(h:ky vs (trD l k).s=none):zR vs c l (k+1)=zR vs c l k:=by
 show(match ky vs (trD l k).s with|some v=>_|none=>_)=_;rw[h]
theorem qbe{vs l:List Trm}{v:Rat}{k:Nat}(h:ky vs (trD l k).s=some v):byX vs l (k+1)=byX vs l k:=by
 show(match ky vs (trD l k).s with|some v=>_|none=>_)=_;rw[h]
theorem jbQ{vs l:List Trm}{k:Nat}(h:ky vs (trD l k).s=none):byX vs l (k+1)=yv (byX vs l k) (some (vj (trD l k).c)):=by
 show(match ky vs (trD l k).s with|some v=>_|none=>_)=_;rw[h]
theorem zbk{vs l:List Trm}{c:Rat}(dc:QDig 200 c):∀ k,OD (zR vs c l k)
 | 0=>Cc dc
 | k+1=>by
  cases e:ky vs (trD l k).s with
  | none=>rw[vaU e];exact zbk dc k
  | some v=>rw[jay e];exact vaA _ _
theorem kbQ{vs l:List Trm}:∀ k,OD (byX vs l k)
 | 0=>Cc kaZ
 | k+1=>by
  cases e:ky vs (trD l k).s with
  | none=>rw[jbQ e];exact vaA _ _
  | some v=>rw[qbe e];exact kbQ k
theorem zam{vs l:List Trm}{c:Rat}:∀ k,(∀ j,j<k->∀ v,ky vs (trD l j).s=some v->MF (trD l j).c v/\AF (yj vs c l j) ((trD l j).c*v))->zR vs c l k=some (yj vs c l k)
 | 0,_=>rfl
 | k+1,h=>by
  have ih:=zam k fun j hj=>h j oo
  cases e:ky vs (trD l k).s with
  | none=>rw[vaU e,zaV e];exact ih
  | some v =>
   obtain⟨h1,h2⟩:=h k oo v e;rw[jay e,qam e,ih,qv h1,zA h2]
theorem yaU{vs l:List Trm}{c:Rat}:∀ k,(zR vs c l k).isSome=true->∀ j,j<k->∀ v,ky vs (trD l j).s=some v->MF (trD l j).c v/\AF (yj vs c l j) ((trD l j).c*v)
 | 0,_,j,hj=>absurd hj (Cn j)
 | k+1,h,j,hj=>by
  intro v hv
  cases e:ky vs (trD l k).s with
  | none =>
   rw[vaU e]at h;rcases AU.1 hj with hj|rfl
   ·exact yaU k h j hj v hv
   ·rw[e]at hv;cases hv
  | some u =>
   rw[jay e]at h;have h0:(zR vs c l k).isSome=true:=by
    cases e2:zR vs c l k with
    | none=>rw[e2]at h;cases h
    | some q=>rfl
   have ih:=yaU k h0;rcases AU.1 hj with hj|rfl
   ·exact ih j hj v hv
   ·rw[e]at hv;cases hv;rw[zam j ih]at h;by_cases hm:MF (trD l j).c v
    ·rw[qv hm]at h;by_cases ha:AF (yj vs c l j) ((trD l j).c*v)
     ·exact⟨hm,ha⟩
     ·rw[qT ha]at h;cases h
    ·rw[yay hm,jab]at h;cases h
theorem zbw(o:List Trm)(t:Trm):∀ k,k<=o.length->qR (o++[t]) k=qR o k
 | 0,_=>rfl
 | k+1,h=>by
  show yv (qR (o++[t]) k) _=yv (qR o k) _;rw[zbw o t k oo];have:trD (o++[t]) k=trD o k:=by unfold trD;simp[Ap,BS (show k<o.length by omega)]
  rw[this]
theorem ybQ{vs l:List Trm}:∀ k,k<=l.length->byX vs l k=qR (ke vs (l.take k)) (ke vs (l.take k)).length
 | 0,_=>rfl
 | k+1,h=>by
  have ih:=ybQ (vs:=vs) k (show k<=l.length by omega)
  cases e:ky vs (trD l k).s with
  | some v=>rw[qbe e,qah h e];exact ih
  | none =>
   rw[jbQ e,qaG h e,AQ,Cr,ih];show _=yv (qR (ke vs (l.take k)++[trD l k]) (ke vs (l.take k)).length) (some (vj (trD (ke vs (l.take k)++[trD l k]) (ke vs (l.take k)).length).c));rw[zbw _ _ _ (Am _)];have:trD (ke vs (l.take k)++[trD l k]) (ke vs (l.take k)).length=trD l k:=by unfold trD;simp
   rw[this]
theorem qbQ{vs:List Trm}{f:Frm}:yv (byX vs f.t f.t.length) (some f.r)=yU ⟨0,ke vs f.t,f.r⟩:=by
 unfold yU;rw[ybQ _ (Am _),Dx]
end Go.Proofs.YtdiecekagiledaaGreatDoor
namespace Go.Proofs.YtdiecekagiledaaGreatDoor
open Go Go.RowKit Go.Lib Go.Shelf
theorem yaW{P:Program}{ops:Array Oper}{Sp Sp':Nat->zY}{tmps:Array Value}{ds:List Deferred}{w w1:World}(hfit:quietFit ops tmps.size=true)
  {k:Nat} {o:Oper} {listed:Array Bool} {a:Act} {W W':World} {v:Value} (ho:ops[k]? = some o) (hn:yZ o=false) (hJ:QuietAt ops Sp tmps ds w listed a W) (hA:ApartAt ops listed a W)
  (hs:Sp' k v W') (hB:Below w1.heap.size w1 W') (hz:W.heap.size<=W'.heap.size) (hkeep:∀ i u,Sp i u W->Sp' i u W') :
  QuietAt ops Sp' tmps ds w1 (listed.setIfInBounds k true) (a.put o.dst v) W'/\ApartAt ops (listed.setIfInBounds k true) (a.put o.dst v) W':=by
 have other:∀ j (p:Oper) t,ops[j]? = some p->p.dst=some t->j≠k->(a.put o.dst v).eval (.tmp t)=a.eval (.tmp t):=by
  intro j p t hp ht hji;have h2:=quietFit.own hfit hp ho ht (Ne.symm hji);rw[vw,vw];unfold Act.put
  cases hd:o.dst with
  | none=>rfl
  | some d =>
   have:d≠t:=fun e=>h2 (by rw[hd,e])
   simp only;rw[Aj,AL this,<- Aj]
 have new:∀ j (p:Oper),ops[j]? = some p->yZ p=true->j≠k:=fun j p hp hnp e=>by
  subst e;rw[ho]at hp;cases hp;rw[hn]at hnp;cases hnp
 refine⟨⟨hB,?_,?_,by rw[BL];exact hJ.lsize,?_,?_⟩,⟨?_,?_⟩⟩
 ·rw[<- hJ.defers];unfold Act.put;split<;>rfl
 ·rw[<- hJ.size];unfold Act.put;split<;>simp
 ·intro j p t hp ht hj;by_cases hji:j=k
  ·subst hji;rw[ho]at hp;cases hp;rw[vw];unfold Act.put;rw[ht];simp only;rw[Aj,Bg,if_pos (by rw[hJ.size];exact quietFit.lt hfit ho ht)];exact hs
  ·rw[other j p t hp ht hji];exact hkeep _ _ (hJ.done j p t hp ht ((vm hj).resolve_left hji))
 ·intro t ht;have hself:o.dst≠some t:=ht k o ho (qD (by rw[hJ.lsize];exact(Ag.1 ho).1));rw[<- hJ.same t (fun j p hp hl=>ht j p hp (qu hl))];unfold Act.put
  cases hd:o.dst with
  | none=>rfl
  | some d =>
   have:d≠t:=fun e=>hself (by rw[hd,e])
   simp only;rw[AL this]
 ·intro j p t hp hnp ht hj;have hji:=new j p hp hnp;rw[other j p t hp ht hji];obtain⟨b,e,hb⟩:=hA.old j p t hp hnp ht ((vm hj).resolve_left hji);exact⟨b,e,AG hb hz⟩
 ·intro i j p q t s hp hq hnp hnq ht hs' hne hi hj;have hik:=new i p hp hnp;have hjk:=new j q hq hnq;rw[other i p t hp ht hik,other j q s hq hs' hjk];exact hA.apart i j p q t s hp hq hnp hnq ht hs' hne ((vm hi).resolve_left hik) ((vm hj).resolve_left hjk)
def someItems(P:Program)(ops:Array Oper)(fl:List Oper)(items:List QItem)(tmps:Array Value)(w:World):List Bool->List Oper->List QItem->Prop
 | b :: bs,o :: l,q :: qs=>(b=false->qaE P ops fl items tmps w o q)/\someItems P ops fl items tmps w bs l qs
 | _,[],_=>True
 | [],_ :: _,_=>False
 | _ :: _,_ :: _,[]=>False
theorem soI{P:Program}{ops:Array Oper}{fl:List Oper}{items:List QItem}{tmps:Array Value}{w:World}{bs:List Bool}{o:Oper}{l:List Oper}{q:QItem}{qs:List QItem}(h:qaE P ops fl items tmps w o q)(h':someItems P ops fl items tmps w bs l qs):someItems P ops fl items tmps w (false :: bs) (o :: l) (q :: qs):=⟨fun _=>h,h'⟩
theorem soS{P:Program}{ops:Array Oper}{fl:List Oper}{items:List QItem}{tmps:Array Value}{w:World}{bs:List Bool}{o:Oper}{l:List Oper}{q:QItem}{qs:List QItem}(h':someItems P ops fl items tmps w bs l qs):someItems P ops fl items tmps w (true :: bs) (o :: l) (q :: qs):=⟨fun h=>(by cases h),h'⟩
theorem someItems.get{P:Program}{ops:Array Oper}{fl:List Oper}{items:List QItem}{tmps:Array Value}{w:World}:∀(bs:List Bool) (l:List Oper) (qs:List QItem) (k:Nat),someItems P ops fl items tmps w bs l qs->(∀ i,qs[i]? = items[k+i]?)->∀ i o,l[i]? = some o->bs[i]? = some false->kU P ops fl (kg items) tmps w (k+i) o:=by
 intro bs l
 induction l generalizing bs with
 | nil=>intro qs k h hq i o ho;simp at ho
 | cons p l ih =>
  intro qs k h hq i o ho hb
  cases bs with
  | nil=>simp at hb
  | cons b bs =>
   cases qs with
   | nil=>exact h.elim
   | cons q qs =>
    cases i with
    | zero =>
     have e:kg items k=q.sp:=by
      have:=hq 0;rw[Dg]at this;unfold kg;rw[<- this];rfl
     have hb':b=false:=by simpa using hb
     have ho':p=o:=by simpa using ho
     subst ho';intro ρ W h1 h2 h3 h4 h5 h6;rw[Dg,e];exact h.1 hb' ρ W h1 h2 h3 h4 h5 h6
    | succ i =>
     have:=ih bs qs (k+1) h.2 (fun i=>by have:=hq (i+1);simpa[Dn,Ci 1 i]using this) i o (by simpa using ho) (by simpa using hb)
     rwa[show k+1+i=k+(i+1) by omega]at this
def vcT(ops:Array Oper)(n k:Nat):List Bool:=(List.range n).map fun i=>decide (i=k)||match ops[i]? with|some o=>zO ops ops.size o k|none=>false
def zcU(ops:Array Oper)(n k:Nat):List Bool:=(List.range n).map fun i=>decide (i=k)||match ops[k]? with|some o=>zO ops ops.size o i|none=>false
def keepItems(W W':World):List QItem->List QItem->Prop
 | q :: l,r :: m=>(∀ u,q.sp u W->r.sp u W')/\keepItems W W' l m
 | [],[]=>True
 | _,_=>False
theorem keepItems.get{W W':World}:∀ {l m:List QItem},keepItems W W' l m->∀ i u,kg l i u W->kg m i u W'
 | [],[],_,i,u,h=>by simp[kg]
 | q :: l,r :: m,h,0,u,hu=>h.1 u hu
 | q :: l,r :: m,h,i+1,u,hu=>keepItems.get (l:=l) (m:=m) h.2 i u hu
def jcU(P:Program)(S:zY)(r:Nat)(ob:Obj)(w:World):Result Next->Prop
 | .ok (.enter f args) w'=>Aa w w'/\Calls P f args w' fun e w''=>∃ v,e=.returned v/\S v w''/\w'.grownBy w'' (some r)/\Row w'' r ob
 | _=>False
def qcE(P:Program)(ops:Array Oper)(fl:List Oper)(items:List QItem)(tmps:Array Value)(w:World)(r:Nat)(ob:Obj)(o:Oper)(q:QItem):Prop :=
 ∀(ρ:Operand->Value) (W:World),Aa w W->(∀ v,ρ (.const v)=v)->(∀ g,ρ (.global g)=.pointer (some ⟨g,0,none⟩))->(∀ f,ρ (.func f)=.func (.func f) #[] #[]) ->
  (∀ t,vg fl t=true->ρ (.tmp t)=tmps.getD t undef)->qj ops (kg items) ρ W o.after.toList->jcU P q.sp r ob W ((execOp ρ o).run P W)
def onlyItem(P:Program)(ops:Array Oper)(fl:List Oper)(items:List QItem)(tmps:Array Value)(w:World)(r:Nat)(ob:Obj):Nat->List Oper->List QItem->Prop
 | 0,o :: _,q :: _=>qcE P ops fl items tmps w r ob o q
 | k+1,_ :: l,_ :: qs=>onlyItem P ops fl items tmps w r ob k l qs
 | _,_,_=>False
theorem oiS{P:Program}{ops:Array Oper}{fl:List Oper}{items:List QItem}{tmps:Array Value}{w:World}{r:Nat}{ob:Obj}{k:Nat}{o:Oper}{l:List Oper}{q:QItem}{qs:List QItem}(h:onlyItem P ops fl items tmps w r ob k l qs):onlyItem P ops fl items tmps w r ob (k+1) (o :: l) (q :: qs):=h
theorem oiZ{P:Program}{ops:Array Oper}{fl:List Oper}{items:List QItem}{tmps:Array Value}{w:World}{r:Nat}{ob:Obj}{o:Oper}{l:List Oper}{q:QItem}{qs:List QItem}(h:qcE P ops fl items tmps w r ob o q):onlyItem P ops fl items tmps w r ob 0 (o :: l) (q :: qs):=h
theorem onlyItem.get{P:Program}{ops:Array Oper}{fl:List Oper}{items:List QItem}{tmps:Array Value}{w:World}{r:Nat}{ob:Obj}:∀(k:Nat) (l:List Oper) (qs:List QItem),onlyItem P ops fl items tmps w r ob k l qs->∃ o q,l[k]? = some o/\qs[k]? = some q/\qcE P ops fl items tmps w r ob o q
 | 0,o :: l,q :: qs,h=>⟨o,q,rfl,rfl,h⟩
 | k+1,_ :: l,_ :: qs,h=>onlyItem.get k l qs h
 | 0,[],_,h=>h.elim
 | 0,_ :: _,[],h=>h.elim
 | _+1,[],_,h=>h.elim
 | _+1,_ :: _,[],h=>h.elim
theorem qi9{p:Prop}{P:Program}{F:FuncId}{args:Array Value}{v:Value}{r:Nat}{ob:Obj}{w:World}(y:∀ X,Aa w X->Calls P F args X (fun e W=>e=.returned v/\Row W r ob/\X.grownBy W (some r)))
  (h:(∀ X,Aa w X->Calls P F args X (fun e W=>e=.returned v/\Row W r ob/\X.grownBy W (some r)))->p:=by intro y ρ X qX qc qg qf qt qd;simp[qj,kg,QItem.sp,Region.binds]at qd;simp[jcU,QItem.sp,execOp,go_sem,vg,qc,qd,qt,qf];refine⟨Au _ _,(y X qX).mono ?_⟩;rintro e Y⟨rfl,h1,h2⟩;exact⟨_,rfl,rfl,h2,h1⟩):p:=h y
theorem ybD{items:List QItem}{n:Nat}(hv:(List.range n).all (jbX items)=true)(hl:items.length<=n):∀ i u (W W':World),kg items i u W->kg items i u W':=by
 intro i u W W' h;rw[Be]at hv;rcases AJ i n with hi|hi
 ·rw[vaT (hv i (BB.2 hi))]at h ⊢;exact h
 ·unfold kg;rw[AZ oo];trivial
theorem jaZ{P:Program}{ops:Array Oper}{Q:Exit->Act->World->Prop}{id:Nat}{tmps:Array Value}{ds:List Deferred}{w:World}(n k r:Nat)(ob:Obj)(items:List QItem)(M1 M2:List Bool)(L:List Nat)(hm:P.follows .mixedOrders=true)
  (htail:(zao ops n&&quietFit ops tmps.size&&decide (n<=ops.size)&&decide ((ops.toList.take n).length=items.length)&&(decide (k<n)&&((List.range n).all (jbX items)&&(decide (items.length<=n)&&(match ops[k]? with|some o=>o.guard.isNone && !yZ o|none=>false)))))=true) (hL:zK (ops.toList.take n)=L) (hM1:vcT ops n k=M1) (hM2:zcU ops n k=M2) (hmono:itemsMono items) (hall0:someItems P ops (ops.toList.take n) items tmps w M1 (ops.toList.take n) items)
  (hall:∀ w1,w.grownBy w1 (some r)->Row w1 r ob->someItems P ops (ops.toList.take n) items tmps w1 M2 (ops.toList.take n) items)
  (hk:onlyItem P ops (ops.toList.take n) items tmps w r ob k (ops.toList.take n) items)
  (hdone:∀ w1,w.grownBy w1 (some r)->Row w1 r ob->∀ W,Below w1.heap.size w1 W->je W (fun T=>za0 L T->wpList P ops Q (ops.toList.drop n) ⟨T,ds⟩ W) (ops.toList.take n) items tmps):(Code.region id ops true).wp P Q ⟨tmps,ds⟩ w:=by
 simp only[AV,decide_eq_true_eq]at htail;obtain⟨⟨⟨⟨h1,hfit⟩,hn⟩,hlen⟩,hkn,hval,hvl,hko⟩:=htail;have hsp:=ybD hval hvl;obtain⟨ok,hok⟩:∃ o,ops[k]? = some o:=by
  cases h:ops[k]? with
  | none=>rw[h]at hko;cases hko
  | some o=>exact⟨o,rfl⟩
 rw[hok]at hko;simp only[AV,Dp]at hko;obtain⟨hkg,hknew⟩:=hko;obtain⟨ok',qk,hk1,hk2,hkob⟩:=onlyItem.get k _ _ hk;rw[AW,if_pos hkn]at hk1;have heq:ok'=ok:=by simpa[hok]using hk1.symm
 subst heq;have esp:kg items k=qk.sp:=by unfold kg;rw[hk2]
 have e:∀ a W,wpOps P ops Q (List.range' n (ops.size-n)) a W=wpList P ops Q (ops.toList.drop n) a W:=fun a W=>by
  have h:=wpOps_eq_wpList (P:=P) (ops:=ops) (Q:=Q) (ops.toList.drop n) n (fun j=>by rw[DK];simp);rw[CL,Cl]at h;rw[h]
 have hq0:∀ i (o:Oper),i<n->i≠k->ops[i]? = some o->zO ops ops.size o k=false->kU P ops (ops.toList.take n) (kg items) tmps w i o:=fun i o hi hik ho hw=>by
  have:=someItems.get M1 (ops.toList.take n) items 0 hall0 (fun i=>by simp) i o (by rw[AW,if_pos hi];simpa using ho) (by rw[<- hM1];unfold vcT;simp[hi,ho,hik,hw])
  rwa[Bj]at this
 have hq:∀ w1,w.grownBy w1 (some r)->Row w1 r ob->∀ i (o:Oper),i<n->i≠k->ops[i]? = some o->zO ops ops.size ok' i=false->kU P ops (ops.toList.take n) (kg items) tmps w1 i o:=fun w1 g1 g2 i o hi hik ho hw=>by
  have:=someItems.get M2 (ops.toList.take n) items 0 (hall w1 g1 g2) (fun i=>by simp) i o (by rw[AW,if_pos hi];simpa using ho) (by rw[<- hM2];unfold zcU;simp[hi,hok,hik,hw])
  rwa[Bj]at this
 have hin:∀(listed:Array Bool),(∀ j,n<=j->listed.getD j false=false)->∀ j (p:Oper),ops[j]? = some p->listed.getD j false=true->p∈ops.toList.take n:=by
  intro listed h2 j p hp hl;have hjn:j<n:=by
   rcases AJ j n with h|h
   ·exact h
   ·rw[h2 j h]at hl;cases hl
  refine Bk (i:=j) ?_;rw[AW,if_pos hjn];simpa using hp
 refine wp_region_any hm (zau (J:=fun listed a W=>((listed.getD k false=false/\QuietAt ops (kg items) tmps ds w listed a W)\/(listed.getD k false=true/\∃ w1,w.grownBy w1 (some r)/\Row w1 r ob/\QuietAt ops (kg items) tmps ds w1 listed a W))/\ApartAt ops listed a W/\yad ops listed) (C:=[]) hn (fun i o hi ho j hj _=>kV h1 hi ho hj) (fun listed a W h=>h.1.elim (fun h=>h.2.lsize) (fun⟨_,_,_,_,h⟩=>h.lsize)) (fun listed a W h=>h.2.2) ?_ ?_ hfit ops.size _ _ _ ⟨.inl ⟨?_,⟨Below.drew (Au _ _),rfl,rfl,by simp,?_,fun _ _=>rfl⟩⟩,⟨?_,?_⟩,?_⟩ (fun i _ => ?_) ?_)
 ·intro listed a W i o hJ h2 hi ho hni hdep;by_cases hik:i=k
  ·subst hik;have heo:=Di (hok.symm.trans ho);subst heo;have hJ1:QuietAt ops (kg items) tmps ds w listed a W:=by
    rcases hJ.1 with h|⟨h,_⟩
    ·exact h.2
    ·rw[hni]at h;cases h
   have hob:=hkob a.eval W hJ1.below (fun _=>rfl) (fun _=>rfl) (fun _=>rfl)
    (fun t ht=>by rw[vw,Aj,Aj,hJ1.same t (fun j p hp hl=>qx ht (hin listed h2 j p hp hl))])
    (jL _ fun e he hb p t hp ht=>hJ1.done e.on p t hp ht (hdep e (by simpa using he) hb))
   unfold wpOp;simp only[ho];have hgn:ok'.guard=none:=by simpa using hkg
   have hwn:Region.wanted ok' (yielded ops a.tmps)=true:=by simp[Region.wanted,hgn]
   rw[if_pos hwn];left;unfold Oper.wp Oper.upon
   cases hr:(execOp a.eval ok').run P W with
   | halt x W'=>rw[hr]at hob;exact hob.elim
   | ok nx W' =>
    rw[hr]at hob
    cases nx with
    | enter f args =>
     refine Calls.mono hob.2 fun e W'' he => ?_
     obtain⟨v,rfl,hs,hg,hrow⟩:=he;have hB:=hob.1;have h9:=yaW (P:=P) (w1:=W'') hfit hok hknew hJ1 hJ.2.1 (by rw[esp];exact hs) (Au _ _) (Bb hB.size hg.size) (fun i u h=>hsp i u _ _ h);exact⟨.inr ⟨qD (by rw[hJ1.lsize];exact(Ag.1 hok).1),W'',kj (vae _ (hJ1.below.trans (hB.mono hJ1.below.size))) hg,hrow,h9.1⟩,h9.2,zB hJ.2.2 hok hdep⟩
    | _=>exact hob.elim
  ·have hsame:(listed.setIfInBounds i true).getD k false=listed.getD k false:=by
    rw[Aj,AL hik,<- Aj]
   rw[hsame];rcases hJ.1 with⟨hl,hJ1⟩|⟨hl,w1,g1,g2,hJ1⟩
   ·refine wpOp_mono (fun a' W' h=>⟨.inl ⟨hl,h.1⟩,h.2,zB hJ.2.2 ho hdep⟩) (qL hmono.get hfit (hq0 i o hi hik ho ?_) (hin listed h2) ho hJ1 hJ.2.1 hni hdep);rcases hw:zO ops ops.size o k with _|_
    ·rfl
    ·have:=yx hJ.2.2 _ o k hdep hw;rw[hl]at this;cases this
   ·refine wpOp_mono (fun a' W' h=>⟨.inr ⟨hl,w1,g1,g2,h.1⟩,h.2,zB hJ.2.2 ho hdep⟩) (qL hmono.get hfit (hq w1 g1 g2 i o hi hik ho ?_) (hin listed h2) ho hJ1 hJ.2.1 hni hdep);rcases hw:zO ops ops.size ok' i with _|_
    ·rfl
    ·have:=yx hJ.2.2 _ ok' i (hJ.2.2 k ok' hok hl) hw;rw[hni]at this;cases this
 ·intro fuel listed a W hJ h2 h3 hc;have h3':∀ j,j<n->listed.getD j false=true:=fun j hj=>h3 j hj (by simp)
  obtain⟨w1,g1,g2,hJ1⟩:∃ w1,w.grownBy w1 (some r)/\Row w1 r ob/\QuietAt ops (kg items) tmps ds w1 listed a W:=by
   rcases hJ.1 with⟨hl,_⟩|⟨_,h⟩
   ·rw[h3' k hkn]at hl;cases hl
   ·exact h
  refine qau hfit h1 (ops.size-n) n fuel listed a W (Am _) oo hJ1.lsize hJ.2.2 h3' h2 ?_ ?_
  ·refine Bb ?_ hc;have e2:listed.toList=listed.toList.take n++List.replicate (ops.size-n) false:=by
    apply List.ext_getElem?;intro i;have hsz:=hJ1.lsize;rcases AJ i n with hi|hi
    ·rw[BS (by simp;omega),AW,if_pos hi]
    ·rw[CM (by simp;omega)];have hl:(listed.toList.take n).length=n:=by simp;omega
     rw[hl,CY];have:=h2 i hi;rw[Aj]at this;split
     ·rename_i hlt;have hlt':i<listed.size:=oo
      rw[AK hlt']at this;simp at this;simp[hlt',this]
     ·rename_i hge;simp;omega
   rw[e2,List.count_append,List.count_replicate];simp
  ·rw[e];have hq:=jF (items:=items) (K:=fun T W=>za0 L T->wpList P ops Q (ops.toList.drop n) ⟨T,ds⟩ W) (ops.toList.take n) items 0 tmps hlen (fun i=>by simp) (hdone w1 g1 g2 W hJ1.below);have h4:=jx a.tmps (ops.toList.take n) 0 tmps hq hJ1.size.symm (fun i o t ho ht=>by
    rw[Bj];rw[AW]at ho;split at ho
    ·rename_i hi;exact hJ1.done i o t (by simpa using ho) ht (h3' i hi)
    ·cases ho) (fun t ht=>hJ1.same t (fun j p hp hl=>qx ht (hin listed h2 j p hp hl)))
   have:a=⟨a.tmps,ds⟩:=by rw[<- hJ1.defers]
   rw[this];refine h4 ?_;rw[<- hL];refine yax fun i j o p t s ho hp hno hnp ht hs hne => ?_
   rw[AW]at ho hp;split at ho
   ·rename_i hi;split at hp
    ·rename_i hj;exact hJ.2.1.apart i j o p t s (by simpa using ho) (by simpa using hp) hno hnp ht hs hne (h3' i hi) (h3' j hj)
    ·cases hp
   ·cases ho
 ·rw[Aj];by_cases hi:k<ops.size<;>simp[hi]
 ·intro i o t _ _ h;rw[Aj]at h;by_cases hi:i<ops.size<;>simp[hi]at h
 ·intro i o t _ _ _ h;rw[Aj]at h;by_cases hi:i<ops.size<;>simp[hi]at h
 ·intro i j o p t s _ _ _ _ _ _ _ h;rw[Aj]at h;by_cases hi:i<ops.size<;>simp[hi]at h
 ·intro i o _ h;rw[Aj]at h;by_cases hi:i<ops.size<;>simp[hi]at h
 ·rw[Aj];by_cases hi:i<ops.size<;>simp[hi]
 ·simp
end Go.Proofs.YtdiecekagiledaaGreatDoor
