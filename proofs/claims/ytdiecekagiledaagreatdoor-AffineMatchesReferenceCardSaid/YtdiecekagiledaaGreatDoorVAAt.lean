/- slices.Grow at no terms, slices.Concat over two slices of terms. -/
import Derived.Test.YtdiecekagiledaaGreatDoorVALinear
set_option linter.unusedSimpArgs false
set_option linter.unusedVariables false
set_option maxRecDepth 100000
set_option maxHeartbeats 16000000
namespace Go.Proofs.YtdiecekagiledaaGreatDoor
open Go Go.RowKit Go.Lib Go.Shelf Go.Proofs.Tryz
def yap(w:World)(e:Ending)(w':World):Prop:=∃ p c,w'.ownsRow w.heap.size 34 3 (.slice p 0 c) 0 []/\e=.returned (.slice p 0 c)/\Aa w w'
theorem kbz(w:World):Calls prog 124 #[.slice none 0 0,.int .i64 0] w (yap w):=by
 unfold yap;go_enter func124,ntmps124;go_wp2;go_ret;exact⟨none,0,⟨rfl,.inl ⟨rfl,rfl⟩⟩,rfl,Au _ _⟩
theorem qbO{n:Nat}(h0:0<n)(hn:n<=1000)(w:World):Calls prog 124 #[.slice none 0 0,.int .i64 (n:Int)] w (yap w):=by
 obtain⟨i0,hi,hz0,hz1,hz2⟩:=info_parts qao;have hnI:(0:Int)<(n:Int):=oo
 have hnI2:(n:Int)<=1000:=oo
 have hrun:=fun ty=>Lib.run_append_nil_zeros (P:=prog) w 24 3 ty 34 i0 (.agg #[.int .i64 0,.string ⟨#[]⟩,.string ⟨#[]⟩]) .i64 .i64 underlying24 underlying3 hi hz0 n h0 (by rw[hz1];decide) oo (by rw[hz2];omega)
 have hge:=grownCap_ge w n 0 34;have hle:=grownCap_le_maxLen w n 0 34 (by unfold maxLen;omega);have hown:=World.ownsRow_made (e:=34) (base:=w.heap.size) (size:=3) w.drew (Builtin.zeroCells (Value.agg #[.int .i64 0,.string ⟨#[]⟩,.string ⟨#[]⟩]).cells n++Builtin.zeroCells (Value.agg #[.int .i64 0,.string ⟨#[]⟩,.string ⟨#[]⟩]).cells (grownCap w n 0 34-n)) (grownCap w n 0 34) (Am _) hle
  (by rw[Array.size_append,size_zeroCells,size_zeroCells];show n*3+(grownCap w n 0 34-n)*3=_;omega)
 generalize Builtin.zeroCells (Value.agg #[.int .i64 0,.string ⟨#[]⟩,.string ⟨#[]⟩]).cells n++Builtin.zeroCells (Value.agg #[.int .i64 0,.string ⟨#[]⟩,.string ⟨#[]⟩]).cells (grownCap w n 0 34-n)=cur at *;generalize grownCap w n 0 34=G at *;have hB:Aa w (w.drew.alloc (.cells cur 34)):=((Au _ w).drew).alloc (Am _) _;unfold maxLen at hle;have hG:(n:Int)<=(G:Int):=oo
 have hG2:(G:Int)<=9223372036854775807:=oo
 have HO:=hid hown;have HBB:=hid hB;clear hown hB hi hz0 hz1 hz2 h0 hn;unfold yap;go_enter func124,ntmps124;go_wp2_with (at_builtin;refine Lib.wpList_append_run _ rfl _ _ _ _ rfl _ _ rfl rfl _ _ (hrun _) ?_);go_ret;exact⟨_,_,HO.out,rfl,HBB.out⟩
theorem qc2{n:Nat}(hn:n<=1000)(w:World):Calls prog 124 #[.slice none 0 0,.int .i64 (n:Int)] w (yap w):=by
 rcases Az n with rfl|h0
 ·exact kbz w
 ·exact qbO h0 hn w
theorem yX{ops:Array Oper}{rest:List Oper}{o:Oper}{a:Act}{Q:Exit->Act->World->Prop}{w:World}(hgd:o.guard=none)(s x:Operand)
  (ho:o.op=.call { callee:=.builtin .append,args:=#[s,x],argTypes:=#[24,24] }) (n0:Nat) (p:En) (c:Nat) (l:List Trm) (hs:a.eval s=.slice p l.length c) (hown:OT w n0 p c l)
  (q:En) (d:Nat) (m:List Trm) (hx:a.eval x=.slice q m.length d) (hr:TAt 34 w q m) (hl:l.length<=100000) (hm:m.length<=100000) (hbase:n0<=w.heap.size)
  (h:∀ p' c' w',OT w' n0 p' c' (l++m)->w.grownBy w' (Value.slice p l.length c).ownBlock->wpList prog ops Q rest (a.put o.dst (.slice p' (l.length+m.length) c')) w'):wpList prog ops Q (o :: rest) a w:=by
 obtain⟨i0,hi,hz0,hz1,hz2⟩:=info_parts qao;have hlen:(zm (kN m)).length=m.length*3:=by rw[qW,kf]
 refine jr _ hgd s x 24 ho n0 34 i0 (.agg #[.int .i64 0,.string ⟨#[]⟩,.string ⟨#[]⟩]) 3 40 underlying24 hi hz0 hz1 hz2 rfl dd (.slice p l.length c) l.length (zm (kN l)) hs hown w.heap.size q m.length d
  (zm (kN m)) hx ?_ (yaO _) (by unfold maxLen;omega) oo hbase ?_
 ·refine⟨hlen,fun h0 => ?_⟩;rcases hr with⟨he,_⟩|⟨g,cur,rfl,hg,hx⟩
  ·have:=congrArg List.length he;rw[kf,Bh]at this;omega
  ·refine⟨_,rfl,hg.1,fun j u hu => ?_⟩;have hu2:cur[j]? = some u:=by
    rw[<- hx,AW]at hu;split at hu
    ·rwa[CP]at hu
    ·cases hu
   have:=Row.cell_lit' hg j hu2;rcases Az j with rfl|hj
   ·simpa[Addr.add]using this
   ·simpa[Addr.add,Nat.ne_of_gt hj]using this
 ·intro v' w' hown' hg;obtain⟨p',c',rfl⟩:=zh hown';have hl2:(l++m).length=l.length+m.length:=by simp
  rw[<- qM,<- qaX]at hown';exact h p' c' w' (by unfold OT;rw[hl2];exact hown') hg
def qaA(a b:List Trm)(w:World)(e:Ending)(w':World):Prop:=∃ p c,TAt 34 w' p (a++b)/\e=.returned (.slice p (a++b).length c)/\Aa w w'
theorem kcx{a b:List Trm}(la:a.length<=100)(lb:b.length<=100)(sb:Nat)(pa:En)(ca:Nat)(pb:En)(cb:Nat)(w:World)(rs:Row w sb (.cells #[.slice pa a.length ca,.slice pb b.length cb] 24))(hpa:TAt 34 w pa a)(hpb:TAt 34 w pb b) :
  Calls prog 80 #[.slice (some ⟨sb,0,none⟩) 2 2] w (qaA a b w):=by
 have hB:=Ab w;have HPa:=hid hpa;have HPb:=hid hpb;have hnI:(a.length:Int)<=100:=oo
 have hmI:(b.length:Int)<=100:=oo
 have MG:=fun W=>qc2 (n:=a.length+b.length) oo W
 unfold yap at MG;have hnm:((a.length+b.length:Nat):Int)=(a.length:Int)+(b.length:Int):=oo
 rw[hnm]at MG;have la2:a.length<=100000:=oo
 have lb2:b.length<=100000:=oo
 have lsb:=rs.1;clear hpa hpb hnm la lb;have ss:=RF2 rs;unfold qaA;go_enter func80,ntmps80;have h0a:¬ (a.length:Int)<0:=oo
 have h0b:¬ (a.length:Int)+(b.length:Int)<0:=oo
 go_wp2_with fail;refine yaf (kG ?_);go_wp2_with fail;refine kG ?_;go_wp2_with fail;refine kG ?_;go_wp2_with fail;refine(MG _).mono ?_;rintro e W1⟨pg,cg,hown,rfl,h1⟩;have stp:=St1 hB h1 rs;clear hB h1 rs ss;obtain⟨hB,rs⟩:=stp;have ss:=RF2 rs;have hw1:=hB.size;go_wp2_with fail;refine yaf (kG ?_);go_wp2_with (at_builtin;refine yX rfl (.tmp 31) (.tmp 32) rfl w.heap.size pg cg [] rfl hown pa ca a rfl (Ai HPa.out hB) (by first|omega|(simp;done)) oo hB.size ?_;intro p1 c1 Y1 hown' hg';replace rs:=zj hown hg' rs lsb;replace hB:=Below.grown hB hg' hB.size (fun k hk=>by have:=(World.ownsRow.lt hown k hk).1;omega);replace hown:=hown';clear hown' hg' ss;have ss:=RF2 rs);go_wp2_with fail;refine kG ?_;go_wp2_with (at_builtin;refine yX rfl (.tmp 31) (.tmp 32) rfl w.heap.size p1 c1 a rfl hown pb cb b rfl (Ai HPb.out hB) (by first|omega|(simp;done)) oo hB.size ?_;intro p2 c2 Y2 hown' hg';replace rs:=zj hown hg' rs lsb;replace hB:=Below.grown hB hg' hB.size (fun k hk=>by have:=(World.ownsRow.lt hown k hk).1;omega);replace hown:=hown';clear hown' hg' ss;have ss:=RF2 rs);go_wp2_with fail;refine kG ?_;go_wp2;go_ret;exact⟨p2,c2,OT.tat hown,by rw[AQ];rfl,hB⟩
theorem kcM(x:RT)(z:Int)(w:World):Calls prog 108 #[uV x,.int .i64 z] w (kM (compareInt x.s z) w):=by
 have hB:=Ab w;have M:=fun W=>ybp x.s z W
 unfold kM uV at *;generalize compareInt x.s z=r at *;go_enter func108,ntmps108;go_wp2_with fail;have sB:=hB.size;refine za (fun X=>Aa w X) BW ?_;clear hB sB;rintro V1 hB;refine(M _).mono ?_;rintro e W2⟨rfl,h1⟩;have stp:=St0 hB h1;clear hB h1;have hB:=stp;clear stp;go_wp2;go_ret;exact⟨rfl,hB⟩
theorem qak{x y:Int}:compareInt x y<0↔x<y:=by unfold compareInt;split<;>(try split)<;>omega
theorem zak{x y:Int}:compareInt x y=0↔x=y:=by unfold compareInt;split<;>(try split)<;>omega
theorem qcx{l:List Trm}(hs:SrcOk l)(id:Nat)(p:En)(n c:Nat)(hn:l.length=n)(hn1:n<=1000000)(w:World)(hp:TAt 34 w p l):Calls prog 107 #[.slice p n c,.int .i64 (id:Int),.func (.func 108) #[] #[]] w (fun e w'=>∃(i:Nat) (b:Bool),e=.returned (.tuple #[.int .i64 (i:Int),.bool b])/\(b=true->i<n/\(trD l i).s=id)/\(b=false->ky l id=none)/\Aa w w'):=by
 have hB:=Ab w;have HP:=hid hp;clear hp;have hnI:(n:Int)<=1000000:=oo
 have MF:=fun(t:Trm) W=>kcM t.raw (id:Int) W
 unfold kM uV Trm.raw at MF;have HS:=hid hs;clear hs;go_enter func107,ntmps107;go_wp2_with fail;go_loopw[9,10] (fun v9 v10 wr=>∃ i j:Nat,v9=.int .i64 (i:Int)/\v10=.int .i64 (j:Int)/\i<=j/\j<=n/\(∀ t,t<i->(trD l t).s<id)/\(∀ t,j<=t->t<n->id<=(trD l t).s)/\Aa w wr) (fun v9 v10 _=>(RowKit.intOf v10-RowKit.intOf v9).toNat)
 case atStart=>exact⟨0,n,rfl,rfl,oo,oo,fun t ht=>absurd ht oo,fun t h1 h2=>absurd h1 oo,hB⟩
 case round =>
  clear hB;obtain⟨i,j,rfl,rfl,hij,hjn,hlo,hhi,hB⟩:=hrel;rcases AJ i j with hlt|hge
  ·obtain⟨h,hh⟩:∃ h:Nat,(i+j)/2=h:=⟨_,rfl⟩
   have hij:(i:Int)<(j:Int):=oo
   have hE:((i:Int)+(j:Int))/2=(h:Int):=oo
   have hi1:i<=h:=oo
   have hj1:h<j:=oo
   have hhl:h<l.length:=oo
   have hhn:(h:Int)<(n:Int):=oo
   obtain⟨x,hx⟩:∃ x,x=trD l h:=⟨_,rfl⟩
   have HX:=hid hx;have MF:=MF x;have HN:=hid hn;clear hh hn;obtain⟨g,gcur,rfl,rg,g0,g1,g2⟩:=Cd (Ai HP.out hB) hhl;rw[<- hx]at g0 g1 g2;clear hx;have Fg:=Eo rg g0 g1 g2
   have sg:=Fg _ rg;obtain⟨r,hr⟩:∃ r,r=compareInt (x.s:Int) (id:Int):=⟨_,rfl⟩
   rw[<- hr]at MF;have HR:=hid hr;clear hr hhl;rcases Ce r 0 with hr0|hr0
   ·go_wp2_with fail;refine(MF _).mono ?_;rintro e W1⟨rfl,h1⟩;have stp:=St1 hB h1 rg;clear hB h1 rg sg;obtain⟨hB,rg⟩:=stp;have sg:=Fg _ rg;go_wp2;go_roundw
    case rel=>exact⟨h+1,j,by go_num,rfl,oo,hjn,fun t ht=>(by have hlx:(x.s:Int)<(id:Int):=qak.1 (HR.out ▸ hr0);rcases AU.1 ht with h4|h4;(· have:=HS.out.lt h4 (by have:=HN.out;omega);rw[<- HX.out]at this;omega);(· rw[h4,<- HX.out];omega)),hhi,BW⟩
    case measure=>exact El
   ·have hr1:¬ r<0:=oo
    clear hr0;go_wp2_with fail;refine(MF _).mono ?_;rintro e W1⟨rfl,h1⟩;have stp:=St1 hB h1 rg;clear hB h1 rg sg;obtain⟨hB,rg⟩:=stp;have sg:=Fg _ rg;go_wp2;go_roundw
    case rel=>exact⟨i,h,rfl,rfl,oo,oo,hlo,fun t h3 h4=>(by have hlx:¬ (x.s:Int)<(id:Int):=fun e=>(by have h9:r<0:=HR.out ▸ qak.2 e;omega);rcases Dc h3 with h5|h5;(· rw[<- h5,<- HX.out];omega);(· have:=HS.out.lt h5 (by have:=HN.out;omega);rw[<- HX.out]at this;omega)),BW⟩
    case measure=>exact El
  ·obtain rfl:j=i:=oo
   clear hge hij;rcases AJ j n with hjl|hjl
   ·have hjl2:j<l.length:=oo
    have hjI:(j:Int)<(n:Int):=oo
    obtain⟨x,hx⟩:∃ x,x=trD l j:=⟨_,rfl⟩
    have HX:=hid hx;have MF:=MF x;have HN:=hid hn;clear hn;obtain⟨g,gcur,rfl,rg,g0,g1,g2⟩:=Cd (Ai HP.out hB) hjl2;rw[<- hx]at g0 g1 g2;clear hx;have Fg:=Eo rg g0 g1 g2
    have sg:=Fg _ rg;obtain⟨r,hr⟩:∃ r,r=compareInt (x.s:Int) (id:Int):=⟨_,rfl⟩
    rw[<- hr]at MF;have HR:=hid hr;clear hr hjl2;obtain⟨b,hb⟩:∃ b,b=decide (r=0):=⟨_,rfl⟩
    have HB:=hid hb;by_cases hr0:r=0
    ·have HR0:=hid hr0;subst hr0;go_wp2_with fail;refine(MF _).mono ?_;rintro e W1⟨rfl,h1⟩;have stp:=St1 hB h1 rg;clear hB h1 rg sg;obtain⟨hB,rg⟩:=stp;have sg:=Fg _ rg;go_wp2;go_ret2;exact⟨j,true,rfl,fun _=>(by have:=zak.1 (HR.out.symm:compareInt (x.s:Int) (id:Int)=0);rw[<- HX.out];exact⟨hjl,oo⟩),(fun h=>by cases h),hB⟩
    ·have hr2:(r==0)=false:=beq_eq_false_iff_ne.2 hr0;go_wp2_with fail;refine(MF _).mono ?_;rintro e W1⟨rfl,h1⟩;have stp:=St1 hB h1 rg;clear hB h1 rg sg;obtain⟨hB,rg⟩:=stp;have sg:=Fg _ rg;go_wp2;go_ret2;exact⟨j,false,rfl,(fun h=>by cases h),fun _=>kal.2 (fun t ht=>(by obtain⟨k,hk,rfl⟩:=CW ht;rw[<- vN hk];intro e;rcases Cf k j with h4|h4|h4;(· have:=hlo k h4;omega);(· subst h4;rw[<- HX.out]at e;exact hr0 (by rw[HR.out];exact zak.2 oo));(· have:=HS.out.lt h4 hk;rw[<- HX.out]at this;have h6:=hhi j (Am _) (by have:=HN.out;omega);rw[<- HX.out]at h6;omega))),hB⟩
   ·obtain rfl:n=j:=oo
    go_wp2;go_ret2;exact⟨n,false,rfl,(fun h=>by cases h),fun _=>kal.2 (fun t ht=>(by obtain⟨k,hk,rfl⟩:=CW ht;rw[<- vN hk];intro e;have:=hlo k oo;omega)),hB⟩
def kbp(l:List Trm)(id:Nat)(w:World)(e:Ending)(w':World):Prop:=e=.returned (.tuple #[Q (cf l id),.bool (ky l id).isSome])/\Aa w w'
theorem vcx{l:List Trm}(hs:SrcOk l)(id:Nat)(p:En)(n c:Nat)(hn:l.length=n)(hn1:n<=1000000)(w:World)(hp:TAt 34 w p l)(he:Env w):Calls prog 58 #[.slice p n c,.int .i64 (id:Int)] w (kbp l id w):=by
 have hB:=Ab w;have HP:=hid hp;have MB:=fun W (hp:TAt 34 W p l)=>qcx hs id p n c hn hn1 W hp
 have M0:=fun W (H:Env W)=>qA (n:=0) dd zG W H
 have HS:=hid hs;have HN:=hid hn;unfold QIs at M0;unfold kbp;obtain⟨v,hv⟩:∃ v,cf l id=v:=⟨_,rfl⟩
 obtain⟨s,hs2⟩:∃ s,(ky l id).isSome=s:=⟨_,rfl⟩
 rw[hv,hs2];unfold Q at *;have HV:=hid hv;have HS2:=hid hs2;clear hp hs hn hv hs2;go_enter func58,ntmps58;go_wp2_with fail;have d0_o:w.heap.size<=w.heap.size:=by have:=hB.size;omega
 have sB:=hB.size;refine za (fun X=>Aa w X/\Row X w.heap.size oN0) ⟨BW,RW8⟩ ?_;clear hB sB;rintro V1⟨hB,ro⟩;have so:=vd ro;refine(MB _ (Ai HP.out hB)).mono ?_;rintro e W2⟨i,b,rfl,h2,h3,h1⟩;have stp:=St1 hB h1 ro;clear hB h1 ro so;obtain⟨hB,ro⟩:=stp;have so:=vd ro;have H2:=hid h2;have H3:=hid h3;clear h2 h3
 cases b
 ·have hl:=H3.out rfl;have e1:cf l id=0:=by unfold cf;rw[hl];rfl
  have e2:(ky l id).isSome=false:=by rw[hl];rfl
  obtain⟨z,hz⟩:∃ z:Rat,z=0:=⟨_,rfl⟩
  rw[<- hz]at M0;have HZV:=hid ((hz.trans e1.symm).trans HV.out);have HST:=hid (HS2.out.symm.trans e2);clear H2 H3 hl e1 e2 HV HS2 hz;go_wp2_with fail;refine(M0 _ (he.below hB)).mono ?_;rintro e W3⟨rfl,h1⟩;have stp:=St1 hB h1 ro;clear hB h1 ro so;obtain⟨hB,ro⟩:=stp;have so:=vd ro;go_wp2_with fail;have sB:=hB.size;refine vc (fun X=>Aa w X/\Row X w.heap.size (oN z)) ⟨BW,RW8⟩ ?_;clear ro so hB sB;rintro V4⟨hB,ro⟩;have so:=vd ro;refine bodyPost_ret (v:=.tuple #[Ac z,.bool false]) ?res rfl ⟨by rw[HZV.out,HST.out],hB⟩
  case res=>simp[results,results58,go_sem,so]
 ·obtain⟨hin,hie⟩:=H2.out rfl;have hil:i<l.length:=by have:=HN.out;omega
  have hl:=kcD HS.out hil;rw[hie]at hl;have e1:cf l id=(trD l i).c:=by unfold cf;rw[hl];rfl
  have e2:(ky l id).isSome=true:=by rw[hl];rfl
  have HXV0:=e1.symm.trans HV.out;have HST:=hid (HS2.out.symm.trans e2);clear HV HS2;obtain⟨x,hx⟩:∃ x,x=trD l i:=⟨_,rfl⟩
  rw[<- hx]at HXV0;have HXV:=hid HXV0;clear HXV0;have hiI:(i:Int)<(n:Int):=oo
  clear H2 H3 hl e1 e2 hie M0;obtain⟨g,gcur,rfl,rg,g0,g1,g2⟩:=Cd (Ai HP.out hB) hil;rw[<- hx]at g0 g1 g2;clear hx;have Fg:=Eo rg g0 g1 g2
  have sg:=Fg _ rg;go_wp2_with fail;clear Fg;have sB:=hB.size;refine vc (fun X=>Aa w X/\Row X w.heap.size (oN x.c)) ⟨BW,RW8⟩ ?_;clear ro so rg sg hB sB;rintro V3⟨hB,ro⟩;have so:=vd ro;refine bodyPost_ret (v:=.tuple #[Ac x.c,.bool true]) ?res rfl ⟨by rw[HXV.out,HST.out],hB⟩
  case res=>simp[results,results58,go_sem,so]
def mTo(x:Nat->Int):Nat->List Trm
 | 0=>[]
 | k+1=>if pk (x k) 17-8≠0/\(mTo x k).length<5 then mTo x k++[⟨k+1,Rat.divInt (pk (x k) 17-8) 4⟩] else mTo x k
def zaF(c r:Int)(x:Nat->Int):Frm:=⟨Rat.divInt (pk c 161-80) 4,mTo x 6,Rat.divInt (pk r 9) 4⟩
def vTo(x:Nat->Int)(k:Nat):List Trm:=(List.range k).map fun i=>⟨i+1,Rat.divInt (pk (x i) 17-8) 8⟩
theorem jbj(x:Nat->Int):∀ k,(mTo x k).length<=5
 | 0=>by simp[mTo]
 | k+1=>by
  have h:=jbj x k;unfold mTo;split
  ·rw[AQ];simp only[AE,Bh];omega
  ·exact h
theorem jbS{n d:Int}(hd:0<d)(h:n≠0):Rat.divInt n d≠0:=by
 intro e;have:=kD (n:=n) hd;rw[e]at this;have h2:((n:Int):Rat)=0:=by grind
 exact h (by exact_mod_cast h2)
theorem qaF(x:Nat->Int):∀ k,∀ p,p∈mTo x k->1<=p.s/\p.s<=k/\p.c≠0/\Gr 4 8 p.c
 | 0=>fun p hp=>by simp[mTo]at hp
 | k+1=>fun p hp=>by
  have h:=qaF x k;unfold mTo at hp;split at hp
  ·rename_i hc;rcases Cm.1 hp with hp|hp
   ·have:=h p hp;exact⟨this.1,oo,this.2.2⟩
   ·simp only[Bd,Bf,or_false]at hp;subst hp;have h1:=qC (x k) (n:=17) dd;have h2:=jaW (x k) (n:=17) dd;exact⟨by show 1<=k+1;omega,Am _,jbS (d:=4) (n:=pk (x k) 17-8) dd hc.1,Gr.ofInt (d:=4) dd oo⟩
  ·have:=h p hp;exact⟨this.1,oo,this.2.2⟩
theorem kbZ(x:Nat->Int):∀ k,(mTo x k).Pairwise fun a b=>a.s<b.s
 | 0=>by simp[mTo]
 | k+1=>by
  have h:=kbZ x k;unfold mTo;split
  ·refine List.pairwise_append.2 ⟨h,by simp,fun a ha b hb => ?_⟩;simp only[Bd,Bf,or_false]at hb;subst hb;have:=qaF x k a ha;show a.s<k+1;omega
  ·exact h
theorem jbu(c r:Int)(x:Nat->Int):(zaF c r x).Ok where
 few:=by have:=jbj x 6;show(mTo x 6).length<=64;omega
 src:=⟨fun p hp=>by have:=qaF x 6 p hp;exact⟨this.1,oo⟩,kbZ x 6⟩
 nz:=fun p hp=>(qaF x 6 p hp).2.2.1
 rest:=jH dd (qC r dd)
theorem kcl(c r:Int)(x:Nat->Int):FGr 4 80 (zaF c r x) where
 c:=by
  have h1:=qC c (n:=161) dd;have h2:=jaW c (n:=161) dd;exact Gr.ofInt (d:=4) dd oo
 t:=fun p hp=>((qaF x 6 p hp).2.2.2).mono dd
 r:=by
  have h1:=qC r (n:=9) dd;have h2:=jaW r (n:=9) dd;exact Gr.ofInt (d:=4) dd oo
theorem zcG{f:Nat->Trm}(hf:∀ i,(f i).s=i+1)(k:Nat):((List.range k).map f).Pairwise fun a b=>a.s<b.s:=by
 induction k with
 | zero=>simp
 | succ k ih =>
  rw[List.range_succ,List.map_append];refine List.pairwise_append.2 ⟨ih,by simp,fun a ha b hb => ?_⟩;obtain⟨i,hi,rfl⟩:=BR.1 ha;simp only[List.map_cons,List.map_nil,Bd,Bf,or_false]at hb;subst hb;have:=BB.1 hi;rw[hf,hf];omega
theorem qcG{f:Nat->Trm}(hf:∀ i,(f i).s=i+1){k:Nat}(hk:k<=1000000):SrcOk ((List.range k).map f):=by
 refine⟨fun p hp => ?_,zcG hf k⟩;obtain⟨i,hi,rfl⟩:=BR.1 hp;have:=BB.1 hi;rw[hf];omega
theorem jcI(x:Nat->Int){k:Nat}(hk:k<=1000000):SrcOk (vTo x k):=qcG (fun _=>rfl) hk
theorem ycX(x:Nat->Int)(k:Nat):∀ p,p∈vTo x k->Gr 8 8 p.c:=fun p hp=>by
 obtain⟨i,hi,rfl⟩:=BR.1 hp;have h1:=qC (x i) (n:=17) dd;have h2:=jaW (x i) (n:=17) dd;exact Gr.ofInt (d:=8) dd oo
theorem vaR{n d:Int}(hd:0<d)(h1 : -d<=n)(h2:n<=d) : -1<=Rat.divInt n d/\Rat.divInt n d<=1:=by
 constructor
 ·refine(yaE hd).2 ?_;have:((-d:Int):Rat)<=(n:Rat):=by exact_mod_cast h1
  push_cast at this;grind
 ·refine(kak hd).2 ?_;have:((n:Int):Rat)<=(d:Rat):=by exact_mod_cast h2
  grind
theorem jbo(x:Nat->Int)(k:Nat):∀ p,p∈vTo x k -> -1<=p.c/\p.c<=1:=fun p hp=>by
 obtain⟨i,hi,rfl⟩:=BR.1 hp;have h1:=qC (x i) (n:=17) dd;have h2:=jaW (x i) (n:=17) dd;exact vaR dd oo oo
theorem vb8(x:Nat->Int)(k:Nat):(vTo x k).length=k:=by simp[vTo]
theorem qcs(x:Nat->Int)(k:Nat):vTo x (k+1)=vTo x k++[⟨k+1,Rat.divInt (pk (x k) 17-8) 8⟩]:=by unfold vTo;rw[List.range_succ,List.map_append];rfl
def ki(q:Rat):Frm:=⟨q,[],0⟩
theorem jcD{p q:Rat}{a b:List Trm}(ha:SrcOk a)(hb:SrcOk b):SrcOk (lin p q a b):=(vbt ha hb).ok.srcOk (Am _)
theorem kcT{p q:Rat}{a b:List Trm}(ha:SrcOk a)(hb:SrcOk b):∀ t,t∈lin p q a b->t.c≠0:=(vbt ha hb).ok.nz
theorem ybt{p q:Rat}{a b:List Trm}(ha:SrcOk a)(hb:SrcOk b)(id:Nat):cf (lin p q a b) id=p*cf a id+q*cf b id:=(vbt ha hb).cf id
theorem zcb:vj 1=1:=by unfold vj;rw[if_neg dd]
theorem vby:vj (-1)=1:=by unfold vj;rw[if_pos dd];grind
theorem qbN:vj 0=0:=by unfold vj;rw[if_neg dd]
theorem kaY{a:Frm}(h:a.Ok):kC 1 (-1) a a=⟨0,[],a.r+a.r⟩:=by
 unfold kC;have ht:lin 1 (-1) a.t a.t=[]:=zbb (jcD h.src h.src) DY (kcT h.src h.src) (by simp) fun id=>by rw[ybt h.src h.src,zZ];grind
 rw[ht,zcb,vby];congr 1<;>grind
theorem zac(q:Rat):(ki q).Ok:=⟨by simp[ki],DY,by simp[ki],CI⟩
def zca(a b:Frm):Frm:=⟨a.c*b.c,lin b.c a.c a.t b.t,vj b.c*a.r+vj a.c*b.r+rad a*rad b⟩
def kca(vs:List Trm):Prop:=∀ p,p∈vs -> -1<=p.c/\p.c<=1
theorem zay{l:List Trm}{id:Nat}{v:Rat}(h:ky l id=some v):∃ p,p∈l/\p.s=id/\p.c=v:=by
 unfold ky at h;obtain⟨p,hp,rfl⟩:=DO.1 h;refine⟨p,List.mem_of_find?_eq_some hp,?_,rfl⟩;have:=List.find?_some hp;simpa using this
theorem vbY{vs:List Trm}(h:kca vs){id:Nat}{v:Rat}(hl:ky vs id=some v) : -1<=v/\v<=1:=by
 obtain⟨p,hp,_,rfl⟩:=zay hl;exact h p hp
theorem ka1{c v:Rat}(h1 : -1<=v)(h2:v<=1):c*v<=vj c /\ -(vj c)<=c*v:=by
 unfold vj;split
 ·rename_i h;have e1:=Dr (show 0 <= -c by grind) (show 0<=1+v by grind);have e2:=Dr (show 0 <= -c by grind) (show 0<=1-v by grind);constructor<;>grind
 ·rename_i h;have e1:=Dr (show 0<=c by grind) (show 0<=1+v by grind);have e2:=Dr (show 0<=c by grind) (show 0<=1-v by grind);constructor<;>grind
def sgn(c:Rat):Int:=if c<0 then -1 else 1
def vc9(l:List Trm)(up:Int):List Trm:=l.map fun t=>⟨t.s,Rat.divInt (up*sgn t.c) 1⟩
def vB(a b ss:List Trm):Nat->Rat
 | 0=>0
 | k+1=>vB a b ss k+cf a (trD ss k).s*cf b (trD ss k).s*(trD ss k).c
end Go.Proofs.YtdiecekagiledaaGreatDoor
namespace Go.Proofs.YtdiecekagiledaaGreatDoor
open Go Go.RowKit Go.Lib Go.Shelf Go.Proofs.Tryz
attribute [local go_sem] yg
structure ValsOk(vs:List Trm):Prop where
 few:vs.length<=64
 src:SrcOk vs
 unit:kca vs
 dig:∀ p,p∈vs->QDig 200 p.c
structure AtF(f:Frm)(vs:List Trm):Prop where
 mul:∀ k,k<f.t.length->∀ v,ky vs (trD f.t k).s=some v->MF (trD f.t k).c v
 add:∀ k,k<f.t.length->∀ v,ky vs (trD f.t k).s=some v->AF (yj vs f.c f.t k) ((trD f.t k).c*v)
 rad:RadF ⟨0,ke vs f.t,f.r⟩
 lo:SF (yj vs f.c f.t f.t.length) (Proofs.YtdiecekagiledaaGreatDoor.rad ⟨0,ke vs f.t,f.r⟩)
 hi:AF (yj vs f.c f.t f.t.length) (Proofs.YtdiecekagiledaaGreatDoor.rad ⟨0,ke vs f.t,f.r⟩)
theorem qam{vs l:List Trm}{c v:Rat}{k:Nat}(h:ky vs (trD l k).s=some v):yj vs c l (k+1)=yj vs c l k+(trD l k).c*v:=by
 show(match ky vs (trD l k).s with|some v=>_|none=>_)=_;rw[h]
theorem zaV{vs l:List Trm}{c:Rat}{k:Nat}(h:ky vs (trD l k).s=none):yj vs c l (k+1)=yj vs c l k:=by
 show(match ky vs (trD l k).s with|some v=>_|none=>_)=_;rw[h]
theorem qah{vs l:List Trm}{v:Rat}{k:Nat}(hk:k<l.length)(h:ky vs (trD l k).s=some v):ke vs (l.take (k+1))=ke vs (l.take k):=by
 rw[jaG hk,h,if_neg (by simp)]
theorem qaG{vs l:List Trm}{k:Nat}(hk:k<l.length)(h:ky vs (trD l k).s=none):ke vs (l.take (k+1))=ke vs (l.take k)++[trD l k]:=by
 rw[jaG hk,h,if_pos rfl]
theorem vbF(vs l:List Trm):(ke vs l).length<=l.length:=by unfold ke;exact List.length_filter_le _ _
theorem kbq{vs:List Trm}(h:kca vs):∀ i,i<vs.length->zaR (-1) 1 (some (trD vs i).c)=true:=fun i hi=>by
 have:=h _ (yk hi);show(decide (-1<=(trD vs i).c)&&decide ((trD vs i).c<=1))=true;rw[decide_eq_true this.1,decide_eq_true this.2];rfl
theorem ka6{vs l:List Trm}{c:Rat}(dc:QDig 200 c):∀ i,(∀ j,j<i->∀ v,ky vs (trD l j).s=some v->MF (trD l j).c v/\AF (yj vs c l j) ((trD l j).c*v))->QDig 200 (yj vs c l i)
 | 0,_=>dc
 | i+1,h=>by
  have ih:=ka6 dc i fun j hj=>h j oo
  cases e:ky vs (trD l i).s with
  | none=>rw[zaV e];exact ih
  | some v=>rw[qam e];exact(h i oo v e).2.dig
theorem jal{n:Nat}{W W':World}(h:n<=W.heap.size)(hB:Below W.heap.size W W'):n<=W'.heap.size:=Bb h hB.size
theorem jc1{a0 a1:Addr}{f:Frm}{vs:List Trm}(dg:FDig 200 f)(hv:ValsOk vs)(hlen:f.t.length<=100000)(pf:En)(cq:Nat)(pv:En)(cv:Nat)(bv bf:Nat)(w:World)(rv:Row w bv (.cells #[.slice pv vs.length cv] 24))(rf:Row w bf (oF f.c f.r pf f.t.length cq))(hpf:TAt 34 w pf f.t)(hpv:TAt 34 w pv vs)(he:Env w)(hf:¬ AtF f vs->EnvA a0 a1 w):Calls prog 54 #[.pointer (some ⟨bv,0,none⟩),.pointer (some ⟨bf,0,none⟩)] w (Or2 (AtF f vs) (zcJ (fun a=>atI f vs=a) w) a1 w):=by
 have hB:=Ab w;have HPf:=hid hpf;have HPv:=hid hpv;have FN:=ja5;obtain⟨n,hn⟩:=yH f;obtain⟨m,hm⟩:∃ m,vs.length=m:=⟨_,rfl⟩
 have hm64:m<=64:=hm ▸ hv.few;have hmI:(m:Int)<=64:=oo
 have hmI2:¬ (64:Int)<(m:Int):=oo
 have MA:=fun W (h1:TAt 34 W pv vs)=>vcY pv m cv (l:=kN vs) (by rw[kf];exact hm) oo W h1
 rw[decide_eq_true (qaY hv.src)]at MA;have MW:=fun W (h1:TAt 34 W pv vs) (H:Env W)=>jaI (l:=kN vs) (fun _=>false) 55 (enters_of func55 kr9 rfl) pv m cv (by rw[kf];exact hm) oo W h1 (fun i hi X hX=>by have hi2:i<vs.length:=oo;have h9:=jct (uD (kN vs) i) (o:=some (trD vs i).c) (by rw[yQ hi2];exact RK.of (hv.dig _ (yk hi2))) X (H.below hX);rw[kbq hv.unit i hi2]at h9;exact h9)
 rw[decide_eq_false (by simp)]at MW;have MF_:=fun id W (h1:TAt 34 W pv vs) (H:Env W)=>vcx hv.src id pv m cv hm oo W h1 H
 have HV:∀ id v,ky vs id=some v->QDig 200 v:=fun id v hl=>by obtain⟨p,hp,_,e⟩:=zay hl;rw[<- e];exact hv.dig p hp
 have MM:=fun k v (h:MF (trD f.t k).c v) W (H:Env W)=>zbF h W H
 have GM:=fun k (hk:k<f.t.length) v (hl:QDig 200 v) (h:¬ MF (trD f.t k).c v) W (H:EnvA a0 a1 W)=>qU (dg.t _ (yk hk)) hl h W H
 have MS:=fun k v (h:AF (yj vs f.c f.t k) ((trD f.t k).c*v)) W (H:Env W)=>vbu h W H
 have GS:=fun k v (hd:QDig 200 (yj vs f.c f.t k)) (h1:MF (trD f.t k).c v) (h:¬ AF (yj vs f.c f.t k) ((trD f.t k).c*v)) W (H:EnvA a0 a1 W)=>vac hd h1.dig h W H
 have hol:=vbF vs;have dgo:FDig 200 ⟨0,ke vs f.t,f.r⟩:=⟨kaZ,fun p hp=>dg.t p (List.mem_filter.1 hp).1,dg.r⟩
 have MR:=fun(h:RadF ⟨0,ke vs f.t,f.r⟩) po co W (h1:TAt 34 W po (ke vs f.t)) (H:Env W)=>vaP h (Bb (hol f.t) oo) ⟨#[]⟩ ⟨#[]⟩ po co W h1 H
 have GR:=fun(h:¬ RadF ⟨0,ke vs f.t,f.r⟩) po co W (h1:TAt 34 W po (ke vs f.t)) (H:EnvA a0 a1 W)=>(zaQ dgo (Bb (hol f.t) oo) ⟨#[]⟩ ⟨#[]⟩ po co W h1 H.env fun _=>H).mono fun _ _ k=>k.no h
 have MI:=fun(h:SF (yj vs f.c f.t f.t.length) (rad ⟨0,ke vs f.t,f.r⟩)/\AF (yj vs f.c f.t f.t.length) (rad ⟨0,ke vs f.t,f.r⟩)) W (H:Env W)=>vbM h.1 h.2 W H
 have GI:=fun(hd:QDig 200 (yj vs f.c f.t f.t.length)) (hr:RadF ⟨0,ke vs f.t,f.r⟩) (h:¬ (SF (yj vs f.c f.t f.t.length) (rad ⟨0,ke vs f.t,f.r⟩)/\AF (yj vs f.c f.t f.t.length) (rad ⟨0,ke vs f.t,f.r⟩))) W (H:EnvA a0 a1 W)=>(jaP (b:=rad ⟨0,ke vs f.t,f.r⟩) hd hr.last.dig W H.env fun _=>H).mono fun _ _ k=>k.no h
 have AO:(∀ j,j<f.t.length->∀ v,ky vs (trD f.t j).s=some v->MF (trD f.t j).c v/\AF (yj vs f.c f.t j) ((trD f.t j).c*v))->RadF ⟨0,ke vs f.t,f.r⟩->SF (yj vs f.c f.t f.t.length) (rad ⟨0,ke vs f.t,f.r⟩)/\AF (yj vs f.c f.t f.t.length) (rad ⟨0,ke vs f.t,f.r⟩)->AtF f vs:=fun h1 h2 h3=>⟨fun k hk v hl=>(h1 k hk v hl).1,fun k hk v hl=>(h1 k hk v hl).2,h2,h3.1,h3.2⟩
 have NO:AtF f vs->RadF ⟨0,ke vs f.t,f.r⟩/\SF (yj vs f.c f.t f.t.length) (rad ⟨0,ke vs f.t,f.r⟩)/\AF (yj vs f.c f.t f.t.length) (rad ⟨0,ke vs f.t,f.r⟩):=fun h=>⟨h.rad,h.lo,h.hi⟩
 have NS:AtF f vs->∀ j,j<f.t.length->∀ v,ky vs (trD f.t j).s=some v->MF (trD f.t j).c v/\AF (yj vs f.c f.t j) ((trD f.t j).c*v):=fun h j hj v hl=>⟨h.mul j hj v hl,h.add j hj v hl⟩
 have MD:=fun i h=>ka6 (vs:=vs) (l:=f.t) dg.c i h
 have HI0:Hid (∀ j,j<0->∀ v,ky vs (trD f.t j).s=some v->MF (trD f.t j).c v/\AF (yj vs f.c f.t j) ((trD f.t j).c*v)):=hid fun j hj=>absurd hj (Cn j)
 have HT:=hid (rfl:f.t.take f.t.length=f.t.take f.t.length);unfold qa at MA MW;unfold kbp at MF_;unfold QIs at MM MS MR;unfold jca I at MI;unfold Or2 zcJ I atI;dsimp only at MR GR;generalize rad ⟨0,ke vs f.t,f.r⟩=rd at *;generalize hlo:yj vs f.c f.t f.t.length-rd=xl at *;generalize hhi:yj vs f.c f.t f.t.length+rd=xh at *;generalize hRF:RadF ⟨0,ke vs f.t,f.r⟩=RF_ at *;generalize hAF:AtF f vs=AF_ at *;unfold Q at *;rw[hn]at MI GI AO NO NS hlen rf;rw[hm]at rv;have hnI:(n:Int)<=100000:=oo
 have HN:=hid hn;have HGM:=hid GM;have HAO:=hid AO;have HNO:=hid NO;have HNS:=hid NS;have HMD:=hid MD;have HHV:=hid HV;clear hRF hAF hlo hhi hpf hpv hv hn hm HT dg dgo AO NO NS MD HV GM;have E0:Hid (yj vs f.c f.t 0=f.c):=hid rfl;have sv:=RF1 rv;have sf:=RF5 rf;go_enter func54,ntmps54;go_wp2_with fail;have dv_o:bv<w.heap.size:=oo
 have df_o:bf<w.heap.size:=oo
 have d0_o:w.heap.size<=w.heap.size:=by have:=hB.size;omega
 have sB:=hB.size;refine za (fun X=>Aa w X/\Row X bv (.cells #[.slice pv m cv] 24)/\Row X bf (oF f.c f.r pf n cq)/\Row X w.heap.size oI0) ⟨BW,RW8,RW8,RW8⟩ ?_;clear rv sv rf sf hB sB;rintro V1⟨hB,rv,rf,ro⟩;have sv:=RF1 rv;have sf:=RF5 rf;have so:=kn ro;refine(MA _ (Ai HPv.out hB)).mono ?_;rintro e W2⟨rfl,h1⟩;have stp:=St3 hB h1 rv rf ro;clear hB h1 rv sv rf sf ro so;obtain⟨hB,rv,rf,ro⟩:=stp;have sv:=RF1 rv;have sf:=RF5 rf;have so:=kn ro;go_wp2_with fail;refine(MW _ (Ai HPv.out hB) (he.below hB)).mono ?_;rintro e W3⟨rfl,h1⟩;have stp:=St3 hB h1 rv rf ro;clear hB h1 rv sv rf sf ro so;obtain⟨hB,rv,rf,ro⟩:=stp;have sv:=RF1 rv;have sf:=RF5 rf;have so:=kn ro;go_wp2_with fail;refine(vn _).mono ?_;rintro e W4⟨rfl,h1⟩;have stp:=St3 hB h1 rv rf ro;clear hB h1 rv sv rf sf ro so;obtain⟨hB,rv,rf,ro⟩:=stp;have sv:=RF1 rv;have sf:=RF5 rf;have so:=kn ro;go_upto_region 3 with fail;have l_v:=rv.1;have l_f:=rf.1;have l_o:=ro.1;have l_W:=hB.size;refine Code.wp_mono (Q:=fun ex ac wx=>ex=.normal/\∃(vmi vot:Nat) (u10 u11 u12 u13 u14 u15 u16 u17 u18 u19 u20 u21 u22 u23 u24 u25 u26 u27 u28 u29:Value),ac={ tmps:=#[.pointer (some ⟨bv,0,none⟩),.pointer (some ⟨bf,0,none⟩),.pointer (some ⟨w.heap.size,0,none⟩),.func (.func 55) #[] #[],.pointer (some ⟨vmi,0,none⟩),.pointer (some ⟨vot,0,none⟩),undef,undef,undef,undef,u10,u11,u12,u13,u14,u15,u16,u17,u18,u19,u20,u21,u22,u23,u24,u25,u26,u27,u28,u29,undef,undef,undef,undef,undef,undef,undef,undef,undef,undef,undef,undef,undef,undef,undef,undef,undef,undef,undef,undef,undef,undef,undef,undef,undef,undef,undef,undef,undef,undef,undef,undef,undef],defers:=[] }/\Aa w wx/\Row wx bv (.cells #[.slice pv m cv] 24)/\Row wx bf (oF f.c f.r pf n cq)/\Row wx w.heap.size oI0/\Row wx vmi (oN f.c)/\W4.heap.size<=vmi/\Row wx vot (oG f.r none 0 0)/\W4.heap.size<=vot/\vmi≠vot) ?rest ?first
 case first =>
  have sB:=hB.size;have KK:∀ X,Row X bf (oF f.c f.r pf n cq)->(X.cell? ⟨bf,0,none⟩=some (.string (S f.c.num))/\X.cell? ⟨bf,1,none⟩=some (.string (S (f.c.den:Int)))/\X.cell? ⟨bf,3,none⟩=some (.string (S f.r.num))/\X.cell? ⟨bf,4,none⟩=some (.string (S (f.r.den:Int)))):=fun X hf=>⟨Af hf 0 rfl,Af hf 1 rfl,Af hf 3 rfl,Af hf 4 rfl⟩
  clear sv sf so;go_region_held3 (fun X=>X.cell? ⟨bf,0,none⟩=some (.string (S f.c.num))/\X.cell? ⟨bf,1,none⟩=some (.string (S (f.c.den:Int)))/\X.cell? ⟨bf,3,none⟩=some (.string (S f.r.num))/\X.cell? ⟨bf,4,none⟩=some (.string (S (f.r.den:Int)))) (first|exact KK _ RW8) (first
      | fail)
  all_goals (refine⟨rfl,_,_,_,_,_,_,_,_,_,_,_,_,_,_,_,_,_,_,_,_,_,_,rfl,?_,?_,?_,?_,?_,?_,?_,?_,?_⟩)
  all_goals first|omega|((repeat(first|(with_reducible assumption)|(with_reducible exact Au _ _)|(with_reducible refine Below.drew ?_)|(with_reducible refine ze ?_ _)|(with_reducible refine Below.alloc ?_ Ek _)|(with_reducible refine Below.setCell ?_ Ek _)));done)|((repeat(first|(with_reducible assumption)|(with_reducible exact jg Ek)|(with_reducible refine AX ?_)|(with_reducible refine Ck ?_ _)|(with_reducible refine AN ?_ _)|(with_reducible apply Cv)|(with_reducible apply Bz)|(with_reducible refine Ba ?_ _ Ek)));done)|(simp;done)|(simp;omega)
 case rest =>
  clear hB rv rf ro sv sf so;rintro ex ac wx⟨rfl,vmi,vot,u10,u11,u12,u13,u14,u15,u16,u17,u18,u19,u20,u21,u22,u23,u24,u25,u26,u27,u28,u29,rfl,hB,rv,rf,ro,rmi,hvmi,rot,hvot,nmi_ot⟩;have dv_mi:bv<vmi:=oo
  have dv_ot:bv<vot:=oo
  have df_mi:bf<vmi:=oo
  have df_ot:bf<vot:=oo
  have do_mi:w.heap.size<vmi:=oo
  have do_ot:w.heap.size<vot:=oo
  have d0_mi:w.heap.size<=vmi:=oo
  have d0_ot:w.heap.size<=vot:=oo
  have sv:=RF1 rv;have sf:=RF5 rf;have so:=kn ro;have smi:=vd rmi;have sot:=kd rot;go_wp2_with fail;obtain⟨n0,hn0e⟩:∃ n0,n0=wx.heap.size:=⟨_,rfl⟩
  have hbo:vot<n0:=by have:=rot.1;omega
  have hbm:vmi<n0:=by have:=rmi.1;omega
  have hbf:bf<n0:=by have:=rf.1;omega
  have hbv:bv<n0:=by have:=rv.1;omega
  have hb0:w.heap.size<n0:=by have:=ro.1;omega
  have hn0:n0<=wx.heap.size:=oo
  clear hn0e;rw[<- E0.out]at rmi;clear sv sf so smi sot;go_loopw[33] (fun v33 wr=>∃(i:Nat) (po:En) (co:Nat),Hid (∀ j,j<i->∀ v,ky vs (trD f.t j).s=some v->MF (trD f.t j).c v/\AF (yj vs f.c f.t j) ((trD f.t j).c*v))/\v33=.int .i64 (i:Int)/\i<=n/\OT wr n0 po co (ke vs (f.t.take i))/\n0<=wr.heap.size/\Aa w wr/\Row wr bv (.cells #[.slice pv m cv] 24)/\Row wr bf (oF f.c f.r pf n cq)/\Row wr w.heap.size oI0/\Row wr vmi (oN (yj vs f.c f.t i))/\Row wr vot (.cells #[.string ⟨#[]⟩,.string ⟨#[]⟩,.slice po (ke vs (f.t.take i)).length co,.string (S f.r.num),.string (S (f.r.den:Int))] 26)) (fun v33 _=>(n-RowKit.intOf v33).toNat)
  case atStart=>exact⟨0,none,0,HI0,rfl,oo,OT.nil _ _,hn0,hB,rv,rf,ro,rmi,rot⟩
  case round =>
   clear hB rv rf ro rmi rot hn0 HI0;obtain⟨i,po,co,HI,rfl,hin,hown,hn0,hB,rv,rf,ro,rmi,rot⟩:=hrel;have sv:=RF1 rv;have sf:=RF5 rf;have so:=kn ro;have smi:=vd rmi;have sot:=kd rot;rcases AJ i n with hlt|hge
   ·have hlt':i<f.t.length:=by rw[HN.out];exact hlt
    have hlI:(i:Int)<(n:Int):=oo
    have MM:=MM i;have MS:=MS i;have GM:=HGM.out i hlt';have GS:=GS i;have e1:=@qah vs f.t;have hoi:(ke vs (f.t.take i)).length<=200000:=by have:=hol (f.t.take i);rw[Bu]at this;omega
    obtain⟨t,ht⟩:∃ t,t=trD f.t i:=⟨_,rfl⟩
    have HTI:=hid ht;rw[<- ht]at MM MS GM GS;have MF_:=MF_ t.s;have hlt2:=hlt';clear e1;obtain⟨g,gcur,rfl,rg,g0,g1,g2⟩:=Cd (Ai HPf.out hB) hlt2;rw[<- ht]at g0 g1 g2;clear ht;have Fg:=Eo rg g0 g1 g2
    have sg:=Fg _ rg;cases hk:ky vs t.s with
    | none =>
     have e2:(ky vs t.s).isSome=false:=by rw[hk];rfl
     rw[e2]at MF_;have hk2:ky vs (trD f.t i).s=none:=by rw[<- HTI.out];exact hk
     have E1:=hid (zaV (c:=f.c) hk2);have E2:Hid (ke vs (f.t.take (i+1))=(ke vs (f.t.take i))++[t]):=hid (by rw[HTI.out];exact qaG hlt' hk2);have HI2:Hid (∀ j,j<i+1->∀ v,ky vs (trD f.t j).s=some v->MF (trD f.t j).c v/\AF (yj vs f.c f.t j) ((trD f.t j).c*v)):=hid fun j hj=>(AU.1 hj).elim (HI.out j) fun e u hu=>by subst e;rw[hk2]at hu;cases hu
     clear hk hk2 e2 hlt2 MM MS GM GS HI;generalize cf vs t.s=v at *;generalize hoo:ke vs (f.t.take i)=o at *;have HOO:=hid hoo;clear hoo;go_wp2_with fail;have do_t:w.heap.size<wr.heap.size:=oo
     have dmi_t:vmi<wr.heap.size:=oo
     have dot_t:vot<wr.heap.size:=oo
     have sB:=hB.size;refine za (fun X=>Aa w X/\Row X bv (.cells #[.slice pv m cv] 24)/\Row X bf (oF f.c f.r (some ⟨g,0,none⟩) n cq)/\Row X w.heap.size oI0/\Row X vmi (oN (yj vs f.c f.t i))/\Row X vot (oG f.r po o.length co)/\Row X g (.cells gcur 34)/\Row X wr.heap.size (oT (t.s:Int) t.c)/\OT X n0 po co o/\n0<=X.heap.size) ⟨BW,RW8,RW8,RW8,RW8,RW8,RW8,RW8,OW,(by first|omega|(simp;omega))⟩ ?_;clear rv sv rf sf ro so rmi smi rot sot rg sg hB sB hown hn0;rintro V6⟨hB,rv,rf,ro,rmi,rot,rg,rt,hown,hn0⟩;have sv:=RF1 rv;have sf:=RF5 rf;have so:=kn ro;have smi:=vd rmi;have sot:=kd rot;have sg:=Fg _ rg;have st:=RF3 rt;refine(MF_ _ (Ai HPv.out hB) (he.below hB)).mono ?_;rintro e W7⟨rfl,h1⟩;replace hown:=BV hown h1;replace hn0:=jal hn0 h1;have stp:=St7 hB h1 rv rf ro rmi rot rg rt;clear hB h1 rv sv rf sf ro so rmi smi rot sot rg sg rt st;obtain⟨hB,rv,rf,ro,rmi,rot,rg,rt⟩:=stp;have sv:=RF1 rv;have sf:=RF5 rf;have so:=kn ro;have smi:=vd rmi;have sot:=kd rot;have sg:=Fg _ rg;have st:=RF3 rt;go_upto_region 10 with fail;have do_w:w.heap.size<W7.heap.size:=oo
     have dmi_w:vmi<W7.heap.size:=oo
     have dot_w:vot<W7.heap.size:=oo
     have sB:=hB.size;refine zi (fun X=>Aa w X/\Row X bv (.cells #[.slice pv m cv] 24)/\Row X bf (oF f.c f.r (some ⟨g,0,none⟩) n cq)/\Row X w.heap.size oI0/\Row X vmi (oN (yj vs f.c f.t i))/\Row X vot (oG f.r po o.length co)/\Row X g (.cells gcur 34)/\Row X wr.heap.size (oT (t.s:Int) t.c)/\Row X W7.heap.size (oN v)/\OT X n0 po co o/\n0<=X.heap.size) ⟨BW,RW8,RW8,RW8,RW8,RW8,RW8,RW8,RW8,OW,(by first|omega|(simp;omega))⟩ ?_;clear rv sv rf sf ro so rmi smi rot sot rg sg rt st hB sB hown hn0;rintro V8⟨hB,rv,rf,ro,rmi,rot,rg,rt,rw,hown,hn0⟩;have sv:=RF1 rv;have sf:=RF5 rf;have so:=kn ro;have smi:=vd rmi;have sot:=kd rot;have sg:=Fg _ rg;have st:=RF3 rt;have sw:=RF2 rw;go_wp2_with (at_builtin;refine kF rfl (.tmp 53) (.tmp 55) rfl n0 po co o t rfl (World.ownsRow.alloc hown _) _ rfl (qp _ _) hoi (by simp;omega) ?_;intro p' c' W7 hown' hg';replace rv:=zj (World.ownsRow.alloc hown _) hg' (AN rv _) oo;replace rf:=zj (World.ownsRow.alloc hown _) hg' (AN rf _) oo;replace ro:=zj (World.ownsRow.alloc hown _) hg' (AN ro _) oo;replace rmi:=zj (World.ownsRow.alloc hown _) hg' (AN rmi _) oo;replace rot:=zj (World.ownsRow.alloc hown _) hg' (AN rot _) oo;replace hB:=Below.grown (hB.alloc hB.size _) hg' (by simp;have:=hB.size;omega) (fun k hk=>by have:=(World.ownsRow.lt hown k hk).1;omega);have hn7:n0<=W7.heap.size:=Bb (by simp;omega) hg'.size;clear hg' hn0 hown;have sot:=kd rot)
     have hown:=hown';clear hown';go_wp2;go_roundw
     case rel=>exact⟨i+1,p',c',HI2,by go_num,oo,by rw[E2.out];exact kaa hown rot yar 2 _,(by simp;omega),BW,RW8,RW8,RW8,by rw[E1.out];exact RW8,by rw[E2.out];simp only[AQ,AE,Bh,Bj];exact RW8⟩
     case measure=>exact El
    | some v =>
     have MM:=MM v;have MS:=MS v;have dv:=HHV.out _ _ hk;have GM:=GM v dv;have GS:=GS v (HMD.out i HI.out);have e2:cf vs t.s=v:=by unfold cf;rw[hk];rfl
     rw[hk,e2]at MF_;have hk2:ky vs (trD f.t i).s=some v:=by rw[<- HTI.out];exact hk
     have NS:AF_->MF t.c v/\AF (yj vs f.c f.t i) (t.c*v):=fun h=>by rw[HTI.out];exact HNS.out h i hlt v hk2
     have HI2:MF t.c v->AF (yj vs f.c f.t i) (t.c*v)->Hid (∀ j,j<i+1->∀ v,ky vs (trD f.t j).s=some v->MF (trD f.t j).c v/\AF (yj vs f.c f.t j) ((trD f.t j).c*v)):=fun h1 h2=>hid fun j hj=>(AU.1 hj).elim (HI.out j) fun e u hu=>by subst e;rw[hk2]at hu;cases hu;rw[<- HTI.out];exact⟨h1,h2⟩
     have E1:Hid (yj vs f.c f.t (i+1)=yj vs f.c f.t i+t.c*v):=hid (by rw[HTI.out];exact qam hk2);have E2:=hid (qah hlt' hk2);clear hk hk2 e2 hlt2 dv HI;simp only[DH]at MF_;rw[<- E1.out]at MS;generalize t.c*v=y at *;go_wp2_with fail;have do_t:w.heap.size<wr.heap.size:=oo
     have dmi_t:vmi<wr.heap.size:=oo
     have dot_t:vot<wr.heap.size:=oo
     have sB:=hB.size;refine za (fun X=>Aa w X/\Row X bv (.cells #[.slice pv m cv] 24)/\Row X bf (oF f.c f.r (some ⟨g,0,none⟩) n cq)/\Row X w.heap.size oI0/\Row X vmi (oN (yj vs f.c f.t i))/\Row X vot (.cells #[.string ⟨#[]⟩,.string ⟨#[]⟩,.slice po (ke vs (f.t.take i)).length co,.string (S f.r.num),.string (S (f.r.den:Int))] 26)/\Row X g (.cells gcur 34)/\Row X wr.heap.size (oT (t.s:Int) t.c)/\OT X n0 po co (ke vs (f.t.take i))/\n0<=X.heap.size) ⟨BW,RW8,RW8,RW8,RW8,RW8,RW8,RW8,OW,(by first|omega|(simp;omega))⟩ ?_;clear rv sv rf sf ro so rmi smi rot sot rg sg hB sB hown hn0;rintro V6⟨hB,rv,rf,ro,rmi,rot,rg,rt,hown,hn0⟩;have sv:=RF1 rv;have sf:=RF5 rf;have so:=kn ro;have smi:=vd rmi;have sot:=kd rot;have sg:=Fg _ rg;have st:=RF3 rt;refine(MF_ _ (Ai HPv.out hB) (he.below hB)).mono ?_;rintro e W7⟨rfl,h1⟩;replace hown:=BV hown h1;replace hn0:=jal hn0 h1;have stp:=St7 hB h1 rv rf ro rmi rot rg rt;clear hB h1 rv sv rf sf ro so rmi smi rot sot rg sg rt st;obtain⟨hB,rv,rf,ro,rmi,rot,rg,rt⟩:=stp;have sv:=RF1 rv;have sf:=RF5 rf;have so:=kn ro;have smi:=vd rmi;have sot:=kd rot;have sg:=Fg _ rg;have st:=RF3 rt;go_upto_region 9 with fail;have do_w:w.heap.size<W7.heap.size:=oo
     have dmi_w:vmi<W7.heap.size:=oo
     have dot_w:vot<W7.heap.size:=oo
     have sB:=hB.size;refine zi (fun X=>Aa w X/\Row X bv (.cells #[.slice pv m cv] 24)/\Row X bf (oF f.c f.r (some ⟨g,0,none⟩) n cq)/\Row X w.heap.size oI0/\Row X vmi (oN (yj vs f.c f.t i))/\Row X vot (.cells #[.string ⟨#[]⟩,.string ⟨#[]⟩,.slice po (ke vs (f.t.take i)).length co,.string (S f.r.num),.string (S (f.r.den:Int))] 26)/\Row X g (.cells gcur 34)/\Row X wr.heap.size (oT (t.s:Int) t.c)/\Row X W7.heap.size (oN v)/\OT X n0 po co (ke vs (f.t.take i))/\n0<=X.heap.size) ⟨BW,RW8,RW8,RW8,RW8,RW8,RW8,RW8,RW8,OW,(by first|omega|(simp;omega))⟩ ?_;clear rv sv rf sf ro so rmi smi rot sot rg sg rt st hB sB hown hn0;rintro V8⟨hB,rv,rf,ro,rmi,rot,rg,rt,rw,hown,hn0⟩;have sv:=RF1 rv;have sf:=RF5 rf;have so:=kn ro;have smi:=vd rmi;have sot:=kd rot;have sg:=Fg _ rg;have st:=RF3 rt;have sw:=RF2 rw;by_cases h1:MF t.c v
     ·by_cases h2:AF (yj vs f.c f.t i) y
      ·have MM:=MM h1;have MS:=MS h2;have HI:=HI2 h1 h2;clear GM GS NS HI2 h1 h2;go_wp2_with fail;refine qe 7 [.val (Ac (yj vs f.c f.t i)),.val (.pointer (some ⟨wr.heap.size,1,none⟩)),.val (Ac t.c),.val (Ac t.c),.val (Ac v),.val (Ac y),.val (.agg #[.string (S (yj vs f.c f.t (i+1)).num),.string (S ((yj vs f.c f.t (i+1)).den:Int))])] kr9 kr9 trivial (iC (qi1 fun X h=>vd (Ae rmi h)) (iC qi0 (iC (qi1 fun X h=>RF3 (Ae rt h)) (iC qi0 (iC (qi1 fun X h=>RF2 (Ae rw h)) (iC (qi2 fun X h=>MM X (he.below (Em hB h))) (iC (qi2 fun X h=>MS X (he.below (Em hB h))) trivial))))))) ?_;rintro W h1;replace hown:=BV hown h1;replace hn0:=jal hn0 h1;have stp:=St8 hB h1 rv rf ro rmi rot rg rt rw;clear hB h1 rv sv rf sf ro so rmi smi rot sot rg sg rt st rw sw;obtain⟨hB,rv,rf,ro,rmi,rot,rg,rt,rw⟩:=stp;have sv:=RF1 rv;have sf:=RF5 rf;have so:=kn ro;have smi:=vd rmi;have sot:=kd rot;have sg:=Fg _ rg;have st:=RF3 rt;have sw:=RF2 rw;simp only[je,Ah,Ak,Al,AB,AI,AC,AH]
       go_wp2;go_roundw
       case rel=>exact⟨i+1,po,co,HI,by go_num,oo,by rw[E2.out];exact OW,(by first|omega|(simp;omega)),BW,RW8,RW8,RW8,RW8,by rw[E2.out];exact RW8⟩
       case measure=>exact El
      ·have hc:¬ AF_:=fun h=>h2 (NS h).2
       have HE:=hf hc;have GS:=GS h1 h2;have MM:=MM h1;clear hf;go_upto_region 9 with fail;exact ye 6 [true,true,true,true,true,true,false,false] [.val (Ac (yj vs f.c f.t i)),.val (.pointer (some ⟨wr.heap.size,1,none⟩)),.val (Ac t.c),.val (Ac t.c),.val (Ac v),.val (Ac y),.val undef,.val undef] (ji a1 w) kr9 kr9 trivial (bC (qi1 fun X h=>vd (Ae rmi h)) (bC qi0 (bC (qi1 fun X h=>RF3 (Ae rt h)) (bC qi0 (bC (qi1 fun X h=>RF2 (Ae rw h)) (bC (qi2 fun X h=>MM X (he.below (Em hB h))) (bS9 (bS9 trivial)))))))) (qhf rfl (fun X h=>ko (Em hB h) (GS X (HE.below (Em hB h))))) fun e W ⟨h1,h2⟩=>⟨_,h1,fun _ h3=>⟨h3,.inr ⟨hc,rfl,h2⟩⟩⟩
     ·have hc:¬ AF_:=fun h=>h1 (NS h).1
      have HE:=hf hc;have GM:=GM h1;clear hf;go_upto_region 9 with fail;exact ye 5 [true,true,true,true,true,false,false,false] [.val (Ac (yj vs f.c f.t i)),.val (.pointer (some ⟨wr.heap.size,1,none⟩)),.val (Ac t.c),.val (Ac t.c),.val (Ac v),.val undef,.val undef,.val undef] (ji a1 w) kr9 kr9 trivial (bC (qi1 fun X h=>vd (Ae rmi h)) (bC qi0 (bC (qi1 fun X h=>RF3 (Ae rt h)) (bC qi0 (bC (qi1 fun X h=>RF2 (Ae rw h)) (bS9 (bS9 (bS9 trivial)))))))) (qhf rfl (fun X h=>ko (Em hB h) (GM X (HE.below (Em hB h))))) fun e W ⟨h1,h2⟩=>⟨_,h1,fun _ h3=>⟨h3,.inr ⟨hc,rfl,h2⟩⟩⟩
   ·obtain rfl:n=i:=oo
    have hall:f.t.take n=f.t:=by rw[<- HN.out];exact Dx
    rw[hall]at hown rot;clear hall MM MS MF_ GS sv sf so smi sot;have sv:=RF1 rv;have sf:=RF5 rf;have so:=kn ro;have smi:=vd rmi;have sot:=kd rot;go_upto_region 12 with fail;clear rv sv rf sf;have hd:=HMD.out n HI.out;by_cases h1:RF_
    ·by_cases h2:SF (yj vs f.c f.t n) rd/\AF (yj vs f.c f.t n) rd
     ·have MR:=MR h1 po co;have MI:=MI h2;have hc:=HAO.out HI.out h1 h2;clear GR GI h1 h2 hd HI;go_wp2_with fail;refine qe 4 [.val (Ac (yj vs f.c f.t n)),.val (.agg #[.string ⟨#[]⟩,.string ⟨#[]⟩,.slice po (ke vs f.t).length co,.string (S f.r.num),.string (S (f.r.den:Int))]),.val (Ac rd),.val (.agg #[.string (S xl.num),.string (S (xl.den:Int)),.string (S xh.num),.string (S (xh.den:Int))])] kr9 kr9 trivial (iC (qi1 fun X h=>vd (Ae rmi h)) (iC (qi1 fun X h=>kd (Ae rot h)) (iC (qi2 fun X h=>MR X (Ai (OT.tat hown) h) (he.below (Em hB h))) (iC (qi2 fun X h=>MI X (he.below (Em hB h))) trivial)))) ?_;rintro W h1;replace hown:=BV hown h1;have stp:=St3 hB h1 ro rmi rot;clear hB h1 ro so rmi smi rot sot;obtain⟨hB,ro,rmi,rot⟩:=stp;have so:=kn ro;have smi:=vd rmi;have sot:=kd rot;simp only[je,Ah,Ak,Al,AB,AI,AC,AH];go_wp2_with fail;have sB:=hB.size;refine vc (fun X=>Aa w X/\Row X w.heap.size (oI xl xh)) ⟨BW,RW8⟩ ?_;clear ro so rmi smi rot sot hB sB;rintro V6⟨hB,ro⟩;have so:=kn ro;refine bodyPost_ret (v:=.agg #[.string (S xl.num),.string (S (xl.den:Int)),.string (S xh.num),.string (S (xh.den:Int))]) ?res rfl (.inl ⟨hc,⟨xl,xh⟩,rfl,rfl,hB⟩)
      case res=>simp[results,results54,go_sem,so]
     ·have hc:¬ AF_:=fun h=>h2 (HNO.out h).2
      have HE:=hf hc;have GI:=GI hd h1 h2;have MR:=MR h1 po co;clear hf;go_upto_region 12 with fail;exact ye 3 [true,true,true,false,false] [.val (Ac (yj vs f.c f.t n)),.val (.agg #[.string ⟨#[]⟩,.string ⟨#[]⟩,.slice po (ke vs f.t).length co,.string (S f.r.num),.string (S (f.r.den:Int))]),.val (Ac rd),.val undef,.val undef] (ji a1 w) kr9 kr9 trivial (bC (qi1 fun X h=>vd (Ae rmi h)) (bC (qi1 fun X h=>kd (Ae rot h)) (bC (qi2 fun X h=>MR X (Ai (OT.tat hown) h) (he.below (Em hB h))) (bS9 (bS9 trivial))))) (qhf rfl (fun X h=>ko (Em hB h) (GI X (HE.below (Em hB h))))) fun e W ⟨h1,h2⟩=>⟨_,h1,fun _ h3=>⟨h3,.inr ⟨hc,rfl,h2⟩⟩⟩
    ·have hc:¬ AF_:=fun h=>h1 (HNO.out h).1
     have HE:=hf hc;have GR:=GR h1 po co;clear hf;go_upto_region 12 with fail;exact ye 2 [true,true,false,false,false] [.val (Ac (yj vs f.c f.t n)),.val (.agg #[.string ⟨#[]⟩,.string ⟨#[]⟩,.slice po (ke vs f.t).length co,.string (S f.r.num),.string (S (f.r.den:Int))]),.val undef,.val undef,.val undef] (ji a1 w) kr9 kr9 trivial (bC (qi1 fun X h=>vd (Ae rmi h)) (bC (qi1 fun X h=>kd (Ae rot h)) (bS9 (bS9 (bS9 trivial))))) (qhf rfl (fun X h=>ko (Em hB h) (GR X (Ai (OT.tat hown) h) (HE.below (Em hB h))))) fun e W ⟨h1,h2⟩=>⟨_,h1,fun _ h3=>⟨h3,.inr ⟨hc,rfl,h2⟩⟩⟩
end Go.Proofs.YtdiecekagiledaaGreatDoor
