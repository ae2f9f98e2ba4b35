/- times: a product of absolute values. over: long division of absolute values. -/
import Derived.Deep.DeepMust
import Derived.Deep.RegionHeld3
import Derived.Laws.EntriesVeiled
import Derived.Sort.CutIn
import Derived.Sort.Walk0
import Derived.Test.YtdiecekagiledaaGreatDoorVCmp
set_option maxRecDepth 100000
set_option maxHeartbeats 4000000
namespace Go.Proofs.YtdiecekagiledaaGreatDoor
open Go Go.RowKit Go.Lib Go.Shelf Go.Proofs.Tryz
attribute [local go_sem] Oper.semAt_some
theorem NumV.kept{W W':World}{A:En}{n:Nat}{l:List Nat}{row:Option Nat}(h:NumV W A n l)(hg:W.grownBy W' row)(hr:∀ r,row=some r->∃ o:Obj,W.heap[r]? = some o/\o.isCells=false):NumV W' A n l:=by
 refine⟨h.1,fun hn => ?_⟩;obtain⟨ad,e,hb,hc⟩:=h.2 hn;exact⟨ad,e,AG hb hg.size,fun j u hu=>cell_kept (hc j u hu) hg hr⟩
theorem IsNum.kept{W W':World}{A:En}{n c x:Nat}{row:Option Nat}(h:IsNum W A n c x)(hg:W.grownBy W' row)(hr:∀ r,row=some r->∃ o:Obj,W.heap[r]? = some o/\o.isCells=false):IsNum W' A n c x :=
 let ⟨l,h1,h2,h3,h4⟩:=h;⟨l,h1.kept hg hr,h2,h3,h4⟩
theorem IsNum.setCell{W:World}{A:En}{n c x:Nat}(h:IsNum W A n c x){b:Nat}{t:TypeId}{v:Value}(hb:Boxed W b t v)(hv:∀ a x,v ≠ .int a x)(u:Value):IsNum (W.setCell ⟨b,0,none⟩ u) A n c x:=by
 obtain⟨l,h1,h2,h3,h4⟩:=h;refine⟨l,⟨h1.1,fun hn => ?_⟩,h2,h3,h4⟩;obtain⟨ad,e,hlt,hc⟩:=h1.2 hn;refine⟨ad,e,by simpa[World.setCell]using hlt,fun j u' hu => ?_⟩;have hcell:=hc j u' hu;by_cases he:(ad.add j).block=b
 ·
  exfalso;have hbx:W.heap[b]? = some (.cells #[v] t (0,0)):=hb;have hu2:∃ a x,u'=.int a x:=by
   unfold kq at hu;rw[Dq]at hu
   cases hl:l[j]? with
   | none=>rw[hl]at hu;cases hu
   | some y=>rw[hl]at hu;simp at hu;exact⟨_,_,hu.symm⟩
  obtain⟨a',x',rfl⟩:=hu2;unfold World.cell? at hcell;rw[he,hbx]at hcell;simp only at hcell;split at hcell
  ·cases hcell
  ·rw[BU]at hcell;rcases Az (ad.add j).off with e0|e0
   ·rw[e0]at hcell;simp at hcell;exact hv _ _ hcell
   ·rw[AZ (by simp;omega)]at hcell;cases hcell
 ·rw[World.cell?_setCell_other W _ _ u (fun e=>he (by rw[<- e]))];exact hcell
theorem IsNum.alloc{W:World}{A:En}{n c x:Nat}(h:IsNum W A n c x)(o:Obj):IsNum (W.alloc o) A n c x:=h.below ((Au _ _).alloc (Am _) o)
theorem IsNum.nil{W:World}{c:Nat}:IsNum W none 0 c 0:=⟨[],NumV.nil,zcn,rfl,oo⟩
def vF(x:Nat)(k:List Nat){m:Nat}(pre:List (vJ m)):Nat:=pre.foldl (fun a i=>a*10000+x*gd k i.1) 0
theorem jU(x:Nat)(k:List Nat){m:Nat}(pre:List (vJ m))(i:vJ m):vF x k (pre++[i])=vF x k pre*10000+x*gd k i.1:=by simp[vF]
theorem Small.gd_lt{k:List Nat}(h:Small k)(i:Nat):gd k i<10000:=h.get i
theorem va7{x N:Nat}{k:List Nat}(hx:x<10000^N)(hk:Small k){m:Nat}(pre:List (vJ m)):vF x k pre<10000^(N+2*pre.length+1):=by
 generalize hp:pre.length=p
 induction p generalizing pre with
 | zero =>
  obtain rfl:=Bc.1 hp;simp only[vF,List.foldl_nil];exact Cy dd
 | succ p ih =>
  obtain⟨ini,i,rfl⟩:∃ ini i,pre=ini++[i]:=⟨pre.dropLast,pre.getLast (by intro e;rw[e]at hp;cases hp),(BK _).symm⟩
  rw[jU];have h1:=ih ini (by simpa using hp);have h2:=hk.gd_lt i.1;have h3:x*gd k i.1<=10000^N*10000:=Db oo oo;have h4:10000^N*10000=10000^(N+1):=by rw[Bn]
  have h5:10000^(N+1)<=10000^(N+2*p+1+1):=Bm dd oo;have h6:10000^(N+2*p+1+1)=10000^(N+2*p+1)*10000:=by rw[Bn]
  have h7:10000^(N+2*(p+1)+1)=10000^(N+2*p+1+1)*10000:=by rw[show N+2*(p+1)+1=N+2*p+1+1+1 by omega,Bn]
  omega
theorem zbD(l:List Nat)(i:Nat)(h:i<l.length):l.drop i=gd l i :: l.drop (i+1):=zal l i h
theorem kbl(x:Nat)(k:List Nat)(m:Nat)(hm:m=k.length):∀ j,j<=m->vF x k (yai (bk m) j)=x*val (k.drop (m-j)):=by
 intro j
 induction j with
 | zero=>intro _;rw[CD oo];simp[yai,vF,val]
 | succ j ih =>
  intro hj;rw[zT,jU,ih oo];have e:(bk m j).1=m-(j+1):=by unfold bk;simp;omega
  rw[e,zbD k (m-(j+1)) oo,show m-(j+1)+1=m-j by omega];simp only[val];rw[CJ,Nat.mul_left_comm];omega
theorem kbG(x:Nat)(k:List Nat)(m:Nat)(hm:m=k.length):vF x k (yai (bk m) m)=x*val k:=by
 rw[kbl x k m hm m (Am _),Ei,AH]
theorem zcf{l:List Nat}{r:Nat}(h:Norm l)(hr:r<10000)(hn:l≠[]):Norm (r :: l)/\val (r :: l)=val l*10000+r:=by
 refine⟨⟨Small.mk hr h.1,?_⟩,by simp only[val];omega⟩
 cases l with
 | nil=>exact absurd rfl hn
 | cons d l=>rw[List.getLast?_cons_cons];exact h.2
theorem ym{B:Nat}{W W':World}(h:Below W.heap.size W W'):KeepsFrom B W W' :=
 ⟨h.size,fun k _ _ hk _=>(h.block k (Ag.1 hk).1).trans hk⟩
theorem jd{W W':World}{b:Nat}{t:TypeId}{v:Value}(h:Boxed W b t v)(hb:Below W.heap.size W W'):Boxed W' b t v:=(hb.block b h.lt).trans h
theorem jt{W:World}{b b':Nat}{t:TypeId}{v:Value}(h:Boxed W b t v)(hne:b≠b')(u:Value):Boxed (W.setCell ⟨b',0,none⟩ u) b t v:=(Below.heap_setCell W ⟨b',0,none⟩ u b hne).trans h
theorem qb{W W':World}(h:Below W.drew.heap.size W.drew W'):Below W.heap.size W W':=⟨h.os,h.tape,h.output,h.size,h.block⟩
theorem kb7(A B:En)(n c m d x y:Nat)(w:World)(hx:IsNum w A n c x)(hy:IsNum w B m d y)(hx1:x<10000^250)(hy1:y<10000^250) :
  Calls prog 196 #[.slice A n c,.slice B m d] w (vai (x*y) w):=by
 have hm:=hy.le hy1;obtain⟨k,hk,nk,vk,_⟩:=hy;have hln:=hid hk.len;have HX1:=hid hx1;clear hx1 hy1;obtain⟨i0,hi,hz0,hz1,hz2⟩:=info_parts kE;refine(callsIn_wide (n:=3)).1 ?_;refine callsIn_of_wp_marks func196 rfl trivial ?_ rfl;simp only[ntmps196,CS,AE,Bh,Nat.reduceAdd,Nat.reduceSub,Cw,Cx,CT,CA,Co,BM];have bL:=Boxed.new w 147 (.slice A n c);have bO:=Boxed.new (w.alloc (.cells #[.slice A n c] 147)) 147 (.slice none 0 0);rw[World.size_alloc]at bO;have bL2:=bL.alloc (.cells #[.slice none 0 0] 147);have bS:=Boxed.new ((w.alloc (.cells #[.slice A n c] 147)).alloc (.cells #[.slice none 0 0] 147)) 147 (.slice B m d);simp only[World.size_alloc]at bS;have hB0:Aa w (((w.alloc (.cells #[.slice A n c] 147)).alloc (.cells #[.slice none 0 0] 147)).alloc (.cells #[.slice B m d] 147)) :=
  (((Au _ w).alloc (Am _) _).alloc (by simp) _).alloc (by simp;omega) _
 gi_wp2_with (refine⟨trivial,?_⟩;gi_at_call 175;refine(vaQ _ _ _ _ _).mono ?_;rintro e w'⟨rfl,rfl⟩)
 refine wpIn_rangeFunc_ownG rfl oo (gf:=207) (lb:=#[.pointer (some ⟨w.heap.size+1+1,0,none⟩)]) rfl trivial (enters_of func207 kr9 rfl)
  (yab 2 oo (w.heap.size+1+1) w.heap.size B m d k oo _ (by simp) (by simp;omega) bS.cell (Reads.keep hk fun p hp=>hB0.cell hp)) KpB.trans (KpB.book (by simp;omega) (by simp)) (Au _ _) (fun _=>rfl)
  (fun pre W=>(∃ Ao no co,Boxed W (w.heap.size+1) 147 (.slice Ao no co)/\IsNum W Ao no co (vF x k pre)/\Boxed W w.heap.size 147 (.slice A n c)/\Boxed W (w.heap.size+1+1) 147 (.slice B m d))/\Aa w W)
  (fun _ _ _=>False)
  (OwnFrom.and (Own.from (fun s X Y row hs hg hr=>by
   obtain⟨Ao,no,co,h1,h2,h3,h4⟩:=hs;have key:∀ b t v,Boxed X b t v->some b≠row:=fun b t v hb e=>by
    obtain⟨o,ho,hc⟩:=hr b e.symm;rw[show X.heap[b]? = _ from hb]at ho;cases ho;cases hc
   exact⟨Ao,no,co,h1.kept hg (key _ _ _ h1),h2.kept hg hr,h3.kept hg (key _ _ _ h3),h4.kept hg (key _ _ _ h4)⟩) _) (ownFrom_below (Am _) (by simp;omega)))
  (fun _ _ _ _ _ hs _ _=>hs)
  ⟨⟨none,0,0,bO.alloc _,by simpa[vF]using IsNum.nil,bL2.alloc _,bS⟩,hB0⟩
  ?a1 ?assign ?jA ?done ?stop
 case assign =>
  intro q x W K hK
  gi_wp2
  exact hK
 case jA =>
  rintro q pre i W⟨⟨Ao,no,co,hO,hN,hL,hS⟩,hB⟩ hlt;have hcO:=hO.cell;have hfO:=hO.frozen;have hcL:=hL.cell;have hmx:prog.follows .mixedOrders=true:=by kernel_rfl
  have hxW:=hx.below hB;have hMx:Mod x:=vp HX1.out oo;have hd1:=nk.1.gd_lt i.1;have HP1:Hid (Mod (vF x k pre*10000)):=by
   have h1:=va7 HX1.out nk.1 pre;have h2:vF x k pre*10000<10000^(250+2*pre.length+1)*10000:=CE h1 dd;rw[<- Bn]at h2;exact vp h2 oo
  have HP2:Hid (Mod (x*gd k i.1)):=by
   have h2:x*gd k i.1<10000^250*10000:=by
    have h3:x*gd k i.1<=x*10000:=CX _ oo;have h4:x*10000<10000^250*10000:=CE HX1.out dd;exact AS h3 h4
   rw[<- Bn]at h2;exact vp h2 oo
  have HMX:=hid hMx;have HXW:=hid hxW;clear hMx hxW;by_cases hz:vF x k pre=0
  ·have hno:no=0:=hN.zero.2 hz;have hN':IsNum W Ao no co (vF x k pre*10000):=by rw[hz]at hN ⊢;exact hN
   subst hno;have HN:=hid hN';clear hN hN' hz
   gi_wp2
   gi_region_with_o (first
    | (refine⟨trivial,?_⟩;gi_at_call 177;refine(CallsIn.inRound q (callsIn_wide.2 (ka2 A n c x (gd k i.1) _ (by exact HXW.out) HMX.out hd1))).mono ?_;rintro e W3⟨A3,n3,c3,rfl,h3,hb3⟩;have hO3:Boxed W3 (w.heap.size+1) 147 (.slice Ao 0 co):=jd hO (qb hb3);have hL3:Boxed W3 w.heap.size 147 (.slice A n c):=jd hL (qb hb3);have hcO3:=hO3.cell;have hcL3:=hL3.cell;have hN3:=hid (HN.out.below (qb hb3)))
    | (refine⟨trivial,?_⟩;gi_at_call 185;refine(CallsIn.inRound q (callsIn_wide.2 (jP Ao A3 0 co n3 c3 (vF x k pre*10000) (x*gd k i.1) _ (by exact hN3.out) (by exact h3) HP1.out HP2.out))).mono ?_;rintro e W4⟨A4,n4,c4,rfl,h4,hb4⟩;have hO4:=jd hO3 hb4;have hL4:=jd hL3 hb4;have hcO4:=hO4.cell;have hfO4:=hO4.frozen))
   all_goals gi_wp2
   all_goals
    have hW4:Below W.heap.size W W4:=(qb hb3).trans (hb4.mono (qb hb3).size);exact⟨(ym hW4).trans ((KeepsOthers.setCell _ _ _).from _),(Dd hW4 (by have:=hL.lt;omega) (by have:=hS.lt;omega)).trans (KpB.set (by simp) (by simp) _),⟨A4,n4,c4,hO4.set _,by rw[jU];exact h4.setCell hO4 (fun a x e=>by cases e) _,jt hL4 oo _,jt (jd hS hW4) oo _⟩,(hB.trans (hW4.mono hB.size)).setCell (p:=⟨w.heap.size+1,0,none⟩) (by simp) _⟩
  ·have hno:0<no:=by
    rcases Az no with e|e
    ·exact absurd (hN.zero.1 e) hz
    ·exact e
   obtain⟨l0,hl0,nl0,vl0,hco⟩:=hN;obtain⟨ad,hAo,hadb,hcells⟩:=hl0.2 hno;subst hAo;have hl0n:=hl0.len;have hne0:l0≠[]:=by intro e;rw[e]at hl0n;simp at hl0n;omega
   obtain⟨nl1,vl1⟩:=zcf (r:=0) nl0 dd hne0;have hno3:no<=1000:=by
    have:=va7 HX1.out nk.1 pre;have h9:IsNum W (some ad) no co (vF x k pre):=⟨l0,hl0,nl0,vl0,hco⟩
    have:=h9.le this;omega
   have hlit:=World.ownsRow_lit (base:=W.heap.size) (e:=3) (size:=1) W #[.int .i64 0] 1 (Am _) (by unfold maxLen;omega) rfl;have HV:=hid vl0;have HV1:=hid vl1;have HLN0:=hid hl0n;have HC0:=hid hcells;clear vl0 vl1 hl0n hcells hz;have hcOa:(W.alloc (.cells #[.int .i64 0] 3)).cell? ⟨w.heap.size+1,0,none⟩=some (.slice (some ad) no co):=jaB _ hcO
   gi_wp2_with (gi_at_builtin;refine wpListIn_append_own _ rfl (.tmp 15) (.tmp 16) 147 rfl W.heap.size 3 i0 (.int .i64 0) 1 8 underlying147 hi hz0 hz1 hz2 rfl dd (.slice (some ⟨W.heap.size,0,none⟩) 1 1) 1 [.int .i64 0] rfl hlit ad no co (kq l0) rfl (by rw[zU,Nat.mul_one];exact HLN0.out.symm) (fun j u hu=>by rw[World.cell?_alloc_lt _ _ _ (by rw[qi];exact hadb)];exact HC0.out j u hu) (yaT l0) (by unfold maxLen;omega) oo (by simp) ?_;intro v' W1 hown1 hgrow1 _;obtain⟨A1,c1,rfl⟩:=zh hown1;have hbW1:Below W.heap.size W W1:=((Au _ _).alloc (Am _) _).grown hgrow1 (by simp) (fun g hg=>by simp[Value.ownBlock]at hg;omega);have hO1:=jd hO hbW1;have hL1:=jd hL hbW1;have hS1:=jd hS hbW1;have hcO1:=hO1.cell;have hfO1:=hO1.frozen;have hcL1:=hL1.cell)
   have hnew:IsNum W1 A1 (1+no) c1 (vF x k pre*10000):=⟨0 :: l0,by
    have:=BJ hown1;exact this,nl1,by rw[HV1.out,HV.out];rfl,qS hown1⟩
   have hN2:=hnew.setCell hO1 (fun a x e=>by cases e) (.slice A1 (1+no) c1);have hO2:=hO1.set (.slice A1 (1+no) c1);have hL2:=jt hL1 (b':=w.heap.size+1) oo (.slice A1 (1+no) c1);have hS2:=jt hS1 (b':=w.heap.size+1) oo (.slice A1 (1+no) c1);have hk2:∀ B,KeepsFrom B W (W1.setCell ⟨w.heap.size+1,0,none⟩ (.slice A1 (1+no) c1)):=fun _=>(ym hbW1).trans ((KeepsOthers.setCell _ _ _).from _)
   have hp2:KpB w.heap.size (w.heap.size+1+1) W (W1.setCell ⟨w.heap.size+1,0,none⟩ (.slice A1 (1+no) c1)):=(Dd hbW1 (by have:=hL.lt;omega) (by have:=hS.lt;omega)).trans (KpB.set (by simp) (by simp) _);have hB2:Aa w (W1.setCell ⟨w.heap.size+1,0,none⟩ (.slice A1 (1+no) c1)):=(hB.trans (hbW1.mono hB.size)).setCell (p:=⟨w.heap.size+1,0,none⟩) (by simp) _;generalize W1.setCell ⟨w.heap.size+1,0,none⟩ (.slice A1 (1+no) c1)=W2 at *;have hcO2:=hO2.cell;have hfO2:=hO2.frozen;have hcL2:=hL2.cell;have HN2:=hid hN2;have HXW2:=hid (hx.below hB2);clear hN2 hnew hown1 hgrow1 hlit hO1 hL1 hS1 hcO1 hfO1 hcL1 hbW1 hcO hfO hcL HXW hcOa;have HXW:=HXW2
   gi_region_with_o (first
    | (refine⟨trivial,?_⟩;gi_at_call 177;refine(CallsIn.inRound q (callsIn_wide.2 (ka2 A n c x (gd k i.1) _ (by exact HXW.out) HMX.out hd1))).mono ?_;rintro e W3⟨A3,n3,c3,rfl,h3,hb3⟩;have hO3:Boxed W3 (w.heap.size+1) 147 (.slice A1 (1+no) c1):=jd hO2 (qb hb3);have hL3:Boxed W3 w.heap.size 147 (.slice A n c):=jd hL2 (qb hb3);have hcO3:=hO3.cell;have hcL3:=hL3.cell;have hN3:=hid (HN2.out.below (qb hb3)))
    | (refine⟨trivial,?_⟩;gi_at_call 185;refine(CallsIn.inRound q (callsIn_wide.2 (jP A1 A3 (1+no) c1 n3 c3 (vF x k pre*10000) (x*gd k i.1) _ (by exact hN3.out) (by exact h3) HP1.out HP2.out))).mono ?_;rintro e W4⟨A4,n4,c4,rfl,h4,hb4⟩;have hO4:=jd hO3 hb4;have hL4:=jd hL3 hb4;have hcO4:=hO4.cell;have hfO4:=hO4.frozen))
   all_goals gi_wp2
   all_goals
    have hW4:Below W2.heap.size W2 W4:=(qb hb3).trans (hb4.mono (qb hb3).size);exact⟨((hk2 _).trans (ym hW4)).trans ((KeepsOthers.setCell _ _ _).from _),(hp2.trans (Dd hW4 (by have:=hL2.lt;omega) (by have:=hS2.lt;omega))).trans (KpB.set (by simp) (by simp) _),⟨A4,n4,c4,hO4.set _,by rw[jU];exact h4.setCell hO4 (fun a x e=>by cases e) _,jt hL4 oo _,jt (jd hS2 hW4) oo _⟩,(hB2.trans (hW4.mono hB2.size)).setCell (p:=⟨w.heap.size+1,0,none⟩) (by simp) _⟩
 case done =>
  rintro D ys W hD rfl⟨⟨Ao,no,co,hO,hN,hL,hS⟩,hB⟩ hK;have hcO:=hO.cell;rw[kbG x k m hln.out,vk]at hN;have HN:=hid hN;clear hN
  gi_wp2
  refine⟨by simp,.inl ⟨_,_,rfl,run_takeDeferred hK,?_⟩⟩;exact⟨_,results_tmp rfl _ _ _,Ao,no,co,rfl,HN.out.kept (grownBy_putObj' _ D (.deferred none)) (fun r e=>by cases e;exact⟨_,hK,rfl⟩),hB.trans (belowK_b (w:=w) (Am _) W D _ _ (by simp at hD;omega) hK rfl rfl)⟩
 case stop =>
  rintro D cd pre W hD _ h;exact h.elim
end Go.Proofs.YtdiecekagiledaaGreatDoor
namespace Go.Proofs.YtdiecekagiledaaGreatDoor
open Go Go.RowKit Go.Lib Go.Shelf Go.Proofs.Tryz
def vda(g:FuncId)(lb:Array Value)(p:Nat->Bool)(n:Nat)(w0:World):Prop :=
 ∀(W:World) (i:Nat),i<n->Below w0.heap.size w0 W->Calls prog g (#[.int .i64 (i:Int)]++lb) W fun e W'=>e=.returned (.bool (p i))/\Below W.heap.size W W'
theorem ybI(n:Nat)(g:FuncId)(lb:Array Value)(p:Nat->Bool)(w:World)(eg:∀ args w,(callFunc g args).run prog w=.ok (.enter g args) w)(hn:n<=1000000)
  (hp:vda g lb p n w) (hmono:∀ a b,a<=b->b<n->p a=true->p b=true) :
  Calls prog 179 #[.int .i64 (n:Int),.func (.func g) #[] lb] w
   fun e w'=>(∃ k:Nat,e=.returned (.int .i64 (k:Int))/\k<=n/\(∀ t,t<k->p t=false)/\(∀ t,k<=t->t<n->p t=true))/\Aa w w':=by
 have HP:=hid hp;have HM:=hid hmono;clear hp hmono;go_enter func179,ntmps179;go_wp2;go_loopw[5,6] (fun s5 s6 wr=>∃ lo hi:Nat,s5=.int .i64 (lo:Int)/\s6=.int .i64 (hi:Int)/\lo<=hi/\hi<=n/\Aa w wr/\Hid ((∀ t,t<lo->p t=false)/\(∀ t,hi<=t->t<n->p t=true)))
  (fun s5 s6 _=>(RowKit.intOf s6).toNat-(RowKit.intOf s5).toNat)
 case atStart=>exact⟨0,n,rfl,rfl,Bt _,Am _,Au _ _,⟨fun t ht=>absurd ht (Cn _),fun t h1 h2=>by omega⟩⟩
 case round =>
  obtain⟨lo,hi,rfl,rfl,hlh,hin,hB,I⟩:=hrel;by_cases hlt:lo<hi
  ·have hc:=HP.out wr ((lo+hi)/2) oo hB;rw[show(((lo+hi)/2:Nat):Int)=((lo:Int)+(hi:Int))/2 by omega]at hc
   cases hpv:p ((lo+hi)/2)<;>rw[hpv]at hc
   ·have HPV:=hid hpv;clear hpv;go_wp2_with (go_at_fn g;refine hc.mono ?_;rintro e W1⟨rfl,hb1⟩);go_roundw
    case rel=>exact⟨(lo+hi)/2+1,hi,by go_num,rfl,oo,hin,hB.trans (hb1.mono hB.size),⟨fun t ht=>(by
      cases h:p t with
      | false=>rfl
      | true=>have:=HM.out t ((lo+hi)/2) oo oo h;rw[HPV.out]at this;cases this),I.out.2⟩⟩
    case measure=>exact El
   ·have HPV:=hid hpv;clear hpv;go_wp2_with (go_at_fn g;refine hc.mono ?_;rintro e W1⟨rfl,hb1⟩);go_roundw
    case rel=>exact⟨lo,(lo+hi)/2,rfl,by go_num,oo,oo,hB.trans (hb1.mono hB.size),⟨I.out.1,fun t ht htn=>HM.out ((lo+hi)/2) t ht htn HPV.out⟩⟩
    case measure=>exact El
  ·obtain rfl:hi=lo:=oo
   go_wp2;go_ret;exact⟨⟨hi,rfl,hin,I.out.1,I.out.2⟩,hB⟩
theorem vaX(R m k:Nat)(hm:0<m)(hk:k<=9999)(h1:∀ t,t<k->decide (R<(t+1)*m)=false)(h2:∀ t,k<=t->t<9999->decide (R<(t+1)*m)=true) :
  k=min 9999 (R/m):=by
 have e1:k<=R/m:=by
  rcases Az k with rfl|hp
  ·exact Bt _
  ·have:=h1 (k-1) oo;simp only[decide_eq_false_iff_not,Nat.not_lt]at this;rw[show k-1+1=k by omega]at this;exact(Nat.le_div_iff_mul_le hm).2 this
 rcases AJ k 9999 with hlt|hge
 ·have:=h2 k (Am _) hlt;simp only[decide_eq_true_eq]at this;have h3:R/m<k+1:=(Nat.div_lt_iff_lt_mul hm).2 this;omega
 ·omega
theorem jb1(A B:En)(n c m e y r:Nat)(d:Nat)(b1 b2:Nat)(w:World)(hy:IsNum w B m e y)(hr:IsNum w A n c r)(hy1:Mod y)(hy2:Mod (y*(d+1)))(hr1:Mod r)(hd:d<9999)
  (h1:w.cell? ⟨b1,0,none⟩=some (.func (.func 177) #[.slice B m e] #[])) (h2:w.cell? ⟨b2,0,none⟩=some (.slice A n c)) :
  Calls prog 178 #[.int .i64 (d:Int),.pointer (some ⟨b1,0,none⟩),.pointer (some ⟨b2,0,none⟩)] w
   fun e w'=>e=.returned (.bool (decide (r<(d+1)*y)))/\Aa w w':=by
 have hmx:prog.follows .mixedOrders=true:=by kernel_rfl
 have HY:=hid hy;have HR:=hid hr;have HY1:=hid hy1;have HY2:=hid hy2;have HR1:=hid hr1;clear hy hr hy1 hy2 hr1;have hb2:=World.block_lt_of_cell? _ _ h2;have hby:∀ W,IsNum W B m e y->Calls prog 177 #[.slice B m e,.int .i64 ((d:Int)+1)] W (vai (y*(d+1)) W):=fun W h=>by
  have:=ka2 B m e y (d+1) W h HY1.out oo
  rwa[show((d+1:Nat):Int)=(d:Int)+1 by omega]at this
 have HBY:=hid hby;clear hby;obtain⟨z,hz⟩:∃ z,z=kp (y*(d+1):Nat) r:=⟨_,rfl⟩
 have HZ:=hid hz;have hfin:Hid (decide (0<z)=decide (r<(d+1)*y)):=by
  have:decide (0<z)=decide (r<(d+1)*y):=by
   rw[hz,Bq (d+1) y];generalize y*(d+1)=t;unfold kp;by_cases h:r<t
   ·rw[if_neg oo,if_pos oo];simp[h]
   ·rcases AJ t r with h3|h3
    ·rw[if_pos oo];simp[h]
    ·rw[if_neg oo,if_neg oo];simp[h]
  exact this
 clear hz;have hw:IntKind.i64.wrap ((d:Int)+1)=(d:Int)+1:=by rw[IntKind.wrap_i64];omega
 go_enter func178,ntmps178;go_wp2;go_region_with (first
  | (go_at_call 177;refine(HBY.out _ (by exact HY.out)).mono ?_;rintro e1 W3⟨A3,n3,c3,rfl,h3,hb3⟩;have hc3:=later (qb hb3) h2 hb2)
  | (go_at_call 138;refine(jw A3 A n3 c3 n c (y*(d+1)) r _ (by exact h3) (by exact HR.out.below (qb hb3)) HY2.out HR1.out).mono ?_;rintro e1 W4⟨rfl,hb4⟩;rw[<- HZ.out]))
 all_goals go_wp2
 all_goals go_ret
 all_goals exact⟨congrArg (fun b=>Ending.returned (.bool b)) hfin.out,(qb hb3).trans (hb4.mono (qb hb3).size)⟩
end Go.Proofs.YtdiecekagiledaaGreatDoor
namespace Go.Proofs.YtdiecekagiledaaGreatDoor
open Go Go.RowKit
section
variable {P:Program} (w:World)
theorem vaH(base:Nat)(t ty e:TypeId)(i:TypeInfo)(size:Nat)(ht:P.underlying t=some (.slice e))(hi:P.info? e=some i)
  (v:Value) (n:Nat) (xs:List Value) (hown:w.ownsRow base e size v n xs) (c:Nat):(Builtin.append_ #[t,t] ty #[v,.slice none 0 c]).run P w=.ok v w:=by
 rcases hown.2 with⟨rfl,rfl⟩|⟨g,cap,cur,rfl,_,_,hnc,_⟩
 ·simp[Builtin.append_,run_underlying ht,sizeOf,typeInfo,hi,Builtin.lenOf,Builtin.firstCells]
 ·simp[Builtin.append_,run_underlying ht,sizeOf,typeInfo,hi,Builtin.lenOf,Builtin.firstCells,hnc,storeCells]
theorem jX(base:Nat)(t ty e:TypeId)(i:TypeInfo)(z:Value)(size bytes:Nat)(ht:P.underlying t=some (.slice e))(hi:P.info? e=some i)(hz:i.zero=some z)
  (hsize:i.size=size) (hby:i.bytes=bytes) (hzs:z.cells.size=size) (hsz:0<size)
  (v:Value) (n:Nat) (xs:List Value) (hown:w.ownsRow base e size v n xs)
  (B:Nat) (A:En) (m c:Nat) (news:List Value) (hr:Reads w B size A m news) (h1:∀ u∈news,u.oneCell'=true)
  (h63:n+m<=maxLen) (hbytes:(n+m)*bytes<=140737488355328) (hbase:base<=w.heap.size) :
  ∃ v' w',(Builtin.append_ #[t,t] ty #[v,.slice A m c]).run P w=.ok v' w'/\w'.ownsRow base e size v' (n+m) (xs++news)/\w.grownBy w' v.ownBlock:=by
 rcases A with _|ad
 ·have hm:m=0:=by
   rcases Az m with h0|h0
   ·exact h0
   ·obtain⟨ad,h,_⟩:=hr.2 h0
    cases h
  subst hm;have hn:news=[]:=List.eq_nil_of_length_eq_zero (by simpa using hr.1);subst hn;exact⟨v,w,vaH w base t ty e i size ht hi v n xs hown c,by simpa using hown,World.grownBy.refl w _⟩
 ·have hcells:∀ j u,news[j]? = some u->w.cell? (ad.add j)=some u:=by
   intro j u hu;rcases Az m with h0|h0
   ·subst h0;have hn:news=[]:=List.eq_nil_of_length_eq_zero (by simpa using hr.1);subst hn;simp at hu
   ·obtain⟨ad',h,_,hc⟩:=hr.2 h0;injection h with h;subst h;exact hc j u hu
  obtain⟨v',w',hrun,h2,h3,_⟩:=run_append_own_at (P:=P) w base t ty e i z size bytes ht hi hz hsize hby hzs hsz v n xs hown ad m c news hr.1 hcells h1 h63 hbytes hbase;exact⟨v',w',hrun,h2,h3⟩
theorem jr{ops:Array Oper}{rest:List Oper}{o:Oper}{a:Act}{Q:Exit->Act->World->Prop}(hgd:o.guard=none)(s x:Operand)(t:TypeId)
  (ho:o.op=.call { callee:=.builtin .append,args:=#[s,x],argTypes:=#[t,t] })
  (base:Nat) (e:TypeId) (i:TypeInfo) (z:Value) (size bytes:Nat) (ht:P.underlying t=some (.slice e)) (hi:P.info? e=some i) (hz:i.zero=some z)
  (hsize:i.size=size) (hby:i.bytes=bytes) (hzs:z.cells.size=size) (hsz:0<size)
  (v:Value) (n:Nat) (xs:List Value) (hs:a.eval s=v) (hown:w.ownsRow base e size v n xs)
  (B:Nat) (A:En) (m c:Nat) (news:List Value) (hx:a.eval x=.slice A m c) (hr:Reads w B size A m news) (h1:∀ u∈news,u.oneCell'=true)
  (h63:n+m<=maxLen) (hbytes:(n+m)*bytes<=140737488355328) (hbase:base<=w.heap.size)
  (h:∀ v' w',w'.ownsRow base e size v' (n+m) (xs++news)->w.grownBy w' v.ownBlock->wpList P ops Q rest (a.put o.dst v') w'):wpList P ops Q (o :: rest) a w:=by
 refine wpList_plain hgd fun _ hK => ?_
 obtain⟨v',w',hrun,h2,h3⟩:=jX (P:=P) w base t o.type e i z size bytes ht hi hz hsize hby hzs hsz v n xs hown B A m c news hr h1 h63 hbytes hbase;unfold Oper.wp execOp;simp only[ho,resolve,invoke,builtin,Sem.run_bind,Sem.run_pure,Result.andThen_ok,List.map_toArray,List.map_cons,List.map_nil,hs,hx,hrun];exact hK _ _ (h v' w' h2 h3)
theorem qab{F:Fence}{k:Nat}{ops:Array Oper}{rest:List Oper}{o:Oper}{a:Act}{Q:Exit->Act->World->Prop}(hgd:o.guard=none)(s x:Operand)(t:TypeId)
  (ho:o.op=.call { callee:=.builtin .append,args:=#[s,x],argTypes:=#[t,t] })
  (base:Nat) (e:TypeId) (i:TypeInfo) (z:Value) (size bytes:Nat) (ht:P.underlying t=some (.slice e)) (hi:P.info? e=some i) (hz:i.zero=some z)
  (hsize:i.size=size) (hby:i.bytes=bytes) (hzs:z.cells.size=size) (hsz:0<size)
  (v:Value) (n:Nat) (xs:List Value) (hs:a.eval s=v) (hown:w.ownsRow base e size v n xs)
  (B:Nat) (A:En) (m c:Nat) (news:List Value) (hx:a.eval x=.slice A m c) (hr:Reads w B size A m news) (h1:∀ u∈news,u.oneCell'=true)
  (h63:n+m<=maxLen) (hbytes:(n+m)*bytes<=140737488355328) (hbase:base<=w.heap.size)
  (h:∀ v' w',w'.ownsRow base e size v' (n+m) (xs++news)->w.grownBy w' v.ownBlock->wpListIn F k P ops Q rest (a.put o.dst v') w'):wpListIn F k P ops Q (o :: rest) a w:=by
 refine wpListIn_plain hgd fun _ hK => ?_
 obtain⟨v',w',hrun,h2,h3⟩:=jX (P:=P) w base t o.type e i z size bytes ht hi hz hsize hby hzs hsz v n xs hown B A m c news hr h1 h63 hbytes hbase;unfold Oper.wpIn;refine⟨?_,?_⟩
 ·simp[Oper.about,ho,resolve,Target.leads,Sem.run_pure]
 ·rw[Oper.semAt_plain F _ _ (by rw[ho];intro c hc';cases hc')];simp[execOp,ho,resolve,invoke,builtin,hs,hx,hrun,Result.andThen];exact hK _ _ (h v' w' h2 h3)
end
theorem kbE(n:Nat):madeCells #[Value.int .i64 0] n=(kq (List.replicate n 0)).toArray:=by
 apply Array.ext';rw[toList_madeCells_one];simp[kq]
theorem vQ{P:Program}(t e:TypeId)(i:TypeInfo)(ht:P.underlying t=some (.slice e))(hi:P.info? e=some i)(hz:i.zero=some (.int .i64 0))(hs:i.size=1)(hb:i.bytes=8)
  (n:Nat) (hn:n<=1000000) (w:World) :
  (Instr.makeSlice t (.int .i64 (n:Int)) (.int .i64 (n:Int))).run P w=.ok (.slice (some ⟨w.heap.size,0,none⟩) n n) (w.alloc (.cells (kq (List.replicate n 0)).toArray e)):=by
 have hr:=run_make (P:=P) w t e i (.int .i64 0) ht hi hz .i64 .i64 n n oo oo (by rw[hb];omega) oo;simp only[Int.toNat_natCast]at hr;rw[hr,hs,Nat.mul_one,<- kbE];rfl
end Go.Proofs.YtdiecekagiledaaGreatDoor
namespace Go.Proofs.YtdiecekagiledaaGreatDoor
open Go Go.RowKit Go.Lib Go.Shelf
section
variable {P:Program} {ops:Array Oper} {Q:Exit->Act->World->Prop} {md:Region.Mode}
theorem jbn{n:Nat}{row:String}{args:Array Value}{w:World}{R:Value->World->Prop}(h:Rows P row args w R):RowsIn Fence.wide n P row args w R :=
 fun c cs _=>let ⟨v,w',r,s⟩:=h c cs;⟨v,w',r,stepsIn_wide.2 s⟩
theorem kbF{q n:Nat}{o:Oper}(hd:∀ c,o.op ≠ .defer c){K:Act->World->Prop}{a:Act}{w:World}(h:o.wp P a w K Q):o.wpIn (Fence.wide.inRound q) n P a w K Q:=by
 unfold Oper.wp at h;unfold Oper.wpIn;rw[Oper.semAt_eq _ _ _ hd];refine⟨fun _ _=>trivial,?_⟩;generalize (execOp a.eval o).run P w=r at *
 cases r with
 | ok x w' =>
  cases x with
  | value v=>exact h
  | skip=>exact h
  | defer d=>exact h
  | enter f args=>exact⟨fun e=>by simp[Fence.wide,Fence.inRound]at e,CallsIn.inRound q (callsIn_wide.2 h)⟩
  | row r args=>exact⟨fun e=>by simp[Fence.wide,Fence.inRound]at e,jbn (n:=n-1) h⟩
  | _=>exact(h:False).elim
 | halt x w'=>cases x<;>first|exact h|exact(h:False).elim
theorem zbL{q n:Nat}(hL:¬ LetsOut Q)(hnd:∀(i:Nat) (o:Oper),ops[i]? = some o->∀ c,o.op ≠ .defer c){i:Nat}{K:Act->World->Prop}{a:Act}{w:World}(h:wpOp P ops Q i K a w):wpOpIn (Fence.wide.inRound q) n P ops Q i K a w:=by
 unfold wpOp at h;unfold wpOpIn
 cases ho:ops[i]? with
 | none=>simpa[ho]using h
 | some o =>
  simp only[ho]at h ⊢;split
  ·rename_i hw;rw[if_pos hw]at h;exact kbF (hnd i o ho) (h.resolve_right fun h'=>hL h'.2)
  ·rename_i hw;rw[if_neg hw]at h;exact⟨fun _ _=>trivial,h⟩
theorem yaJ{q n:Nat}(hL:¬ LetsOut Q)(hnd:∀(i:Nat) (o:Oper),ops[i]? = some o->∀ c,o.op ≠ .defer c):∀(fuel:Nat) (listed:Array Bool) (a:Act) (w:World),wpAny P md ops Q fuel listed a w->wpAnyIn (Fence.wide.inRound q) n P md ops Q fuel listed a w
 | 0,_,_,_,h=>h
 | fuel+1,_,_,_,h=>⟨h.1,fun i hi=>zbL hL hnd (wpOp_mono (fun a' w' h'=>yaJ hL hnd fuel _ a' w' h') (h.2 i hi))⟩
def yaV(ops:Array Oper):Bool:=ops.all fun o=>match o.op with | .defer _=>false|_=>true
theorem vaV(h:yaV ops=true):∀(i:Nat) (o:Oper),ops[i]? = some o->∀ c,o.op ≠ .defer c:=fun i o ho c e=>by
 unfold yaV at h;rw[Array.all_eq_true]at h;obtain⟨hi,rfl⟩:=Ag.1 ho;have:=h i hi;rw[e]at this;simp at this
theorem zbI(S:World->Prop){q n id:Nat}{a:Act}{w:World}(hm:P.follows .mixedOrders=true)(hnd:yaV ops=true)(hL:¬ LetsOut Q)(hS:S w.drew)
  (h:S w.drew->wpAnyH P .any ops Q S ops.size (Array.replicate ops.size false) a w.drew):(Code.region id ops true).wpIn (Fence.wide.inRound q) n P Q a w :=
 wpIn_region_any hm (yaJ hL (vaV hnd) _ _ _ _ (wpAny_of_held _ _ _ _ (h hS)))
end
end Go.Proofs.YtdiecekagiledaaGreatDoor
namespace Go.Proofs.YtdiecekagiledaaGreatDoor
open Go Go.RowKit Go.Lib Go.Shelf Go.Proofs.Tryz
attribute [local go_sem] Oper.semAt_some
def vK(y:Nat)(l:List Nat)(s:List Nat × Nat)(i:Nat):List Nat × Nat :=
 (s.1.set i (min 9999 ((gd l i+10000*s.2)/y)),gd l i+10000*s.2-y*min 9999 ((gd l i+10000*s.2)/y))
def ju(y:Nat)(l:List Nat){m:Nat}(pre:List (vJ m)):List Nat × Nat:=pre.foldl (fun s i=>vK y l s i.1) (List.replicate m 0,0)
theorem kaG(y:Nat)(l:List Nat){m:Nat}(pre:List (vJ m))(i:vJ m):ju y l (pre++[i])=vK y l (ju y l pre) i.1:=by simp[ju]
theorem zat(y:Nat)(l:List Nat){m:Nat}(P:List Nat × Nat->Nat->Prop)(h0:P (List.replicate m 0,0) 0)
  (hs:∀ s p i,P s p->P (vK y l s i) (p+1)):∀(pre:List (vJ m)),P (ju y l pre) pre.length:=by
 have key:∀(pre:List (vJ m)) s p,P s p->P (pre.foldl (fun s i=>vK y l s i.1) s) (p+pre.length):=by
  intro pre
  induction pre with
  | nil=>intro s p h;exact h
  | cons i pre ih =>
   intro s p h;have:=ih _ _ (hs s p i.1 h);rw[AE,show p+(pre.length+1)=p+1+pre.length by omega];exact this
 intro pre;have:=key pre _ _ h0
 rwa[Bj]at this
theorem zL(y:Nat)(l:List Nat){m:Nat}(pre:List (vJ m)):(ju y l pre).1.length=m :=
 zat y l (fun s _=>s.1.length=m) (by simp) (fun s p i h=>by simp[vK,h]) pre
theorem vav(y:Nat)(l:List Nat){m:Nat}(pre:List (vJ m)):Small (ju y l pre).1 :=
 zat y l (fun s _=>Small s.1) (fun d hd=>by obtain⟨_,rfl⟩:=Df.1 hd;decide) (fun s p i h=>by
  intro d hd;simp only[vK]at hd;rcases List.mem_or_eq_of_mem_set hd with h1|h1
  ·exact h d h1
  ·rw[h1];omega) pre
theorem ja7(y:Nat){l:List Nat}(hl:Small l){m:Nat}(pre:List (vJ m)):(ju y l pre).2<10000^pre.length :=
 zat y l (fun s p=>s.2<10000^p) (by simp) (fun s p i h=>by
  simp only[vK];have h1:=hl.gd_lt i;rw[Bn];omega) pre
theorem zcq(y:Nat){l:List Nat}(hl:Small l){m:Nat}(pre:List (vJ m))(i:Nat):gd l i+10000*(ju y l pre).2<10000^(pre.length+1):=by
 have h1:=hl.gd_lt i;have h2:=ja7 y hl pre;rw[Bn];omega
theorem zba(l:List Nat)(y:Nat)(hs:Small l)(m:Nat)(j:Nat)(r:Nat)(hr:r<y) :
  min 9999 ((gd l (m-(j+1))+10000*r)/y)=(gd l (m-(j+1))+10000*r)/y:=by
 have:=qcg (gd l (m-(j+1))) r y (hs.gd_lt _) hr;omega
theorem qbl(y:Nat)(l:List Nat)(hs:Small l)(m:Nat)(hm:m=l.length)(hy:0<y):∀ j,j<=m ->
  val (l.drop (m-j))=val ((ju y l (yai (bk m) j)).1.drop (m-j))*y+(ju y l (yai (bk m) j)).2/\(ju y l (yai (bk m) j)).2<y:=by
 intro j
 induction j with
 | zero =>
  intro _;rw[CD oo,CD (by rw[zL];omega)];simp[yai,ju,val,hy]
 | succ j ih =>
  intro hj;obtain⟨h1,h2⟩:=ih oo;have e:(bk m j).1=m-(j+1):=by unfold bk;simp;omega
  rw[zT,kaG,e];have hlen:=zL y l (yai (bk m) j);generalize ju y l (yai (bk m) j)=s at *;obtain⟨q,r⟩:=s;simp only at h1 h2 hlen;have h3:=zba l y hs m j r h2;simp only[vK];rw[h3];have h4:=ybY l q (m-(j+1)) y r oo oo (by rw[show m-(j+1)+1=m-j by omega];exact h1);have h5:gd l (m-(j+1))=l.getD (m-(j+1)) 0:=rfl;rw[h5];refine⟨?_,?_⟩
  ·rw[h4];congr 1;have:=Cp (l.getD (m-(j+1)) 0+10000*r) y;omega
  ·have:=Cp (l.getD (m-(j+1)) 0+10000*r) y;have:=BA (l.getD (m-(j+1)) 0+10000*r) hy;omega
theorem zbG(y:Nat)(l:List Nat)(hs:Small l)(m:Nat)(hm:m=l.length)(hy:0<y) :
  val (ju y l (yai (bk m) m)).1=val l/y/\(ju y l (yai (bk m) m)).2=val l%y:=by
 obtain⟨h1,h2⟩:=qbl y l hs m hm hy m (Am _);rw[Ei,AH,AH]at h1;exact kaC h1 h2
theorem yY{W:World}{b b':Nat}{t:TypeId}{v:Value}(h:Boxed W b t v)(hne:b≠b')(i:Nat)(u:Value):Boxed (W.setCell ⟨b',i,none⟩ u) b t v:=(Below.heap_setCell W ⟨b',i,none⟩ u b hne).trans h
theorem IsNum.setOff{W:World}{A:En}{n c x:Nat}(h:IsNum W A n c x){p:Addr}(hp:∀ ad,A=some ad->ad.block≠p.block)(u:Value):IsNum (W.setCell p u) A n c x:=by
 obtain⟨l,h1,h2,h3,h4⟩:=h;refine⟨l,⟨h1.1,fun hn => ?_⟩,h2,h3,h4⟩;obtain⟨ad,e,hlt,hc⟩:=h1.2 hn;refine⟨ad,e,by simpa[World.setCell]using hlt,fun j u' hu => ?_⟩;rw[World.cell?_setCell_other W _ _ u (fun e'=>hp ad e (by rw[e',qi]))];exact hc j u' hu
theorem vcj(l:List Nat)(i d:Nat):(kq l).set i (.int .i64 (d:Int))=kq (l.set i d):=by simp[kq,List.map_set]
theorem kaQ{W:World}{b:Nat}{t:TypeId}{l:List Nat}(h:W.heap[b]? = some (.cells (kq l).toArray t (0,0)))(i d:Nat) :
  (W.setCell ⟨b,i,none⟩ (.int .i64 (d:Int))).heap[b]? = some (.cells (kq (l.set i d)).toArray t (0,0)):=by
 simp only[World.setCell,BN,h];simp[vcj]
theorem ybd{W:World}{b:Nat}{t:TypeId}{l:List Nat}(h:W.heap[b]? = some (.cells (kq l).toArray t (0,0))):NumV W (some ⟨b,0,none⟩) l.length l :=
 ⟨by rw[zU,Nat.mul_one],fun _=>⟨_,rfl,(Ag.1 h).1,fun j u hu=>by
  have e:(Addr.add ⟨b,0,none⟩ j)=⟨b,j,none⟩:=by
   unfold Addr.add;split<;>simp_all
  rw[e,cell_of_row _ _ _ _ _ _ h,BU];exact hu⟩⟩
structure OverI(w:World)(A B:En)(n c m e y:Nat)(l:List Nat)(pre:List (vJ n))(W:World):Prop where
 m:Boxed W w.heap.size 147 (.slice B m e)
 q:Boxed W (w.heap.size+1) 147 (.slice (some ⟨w.heap.size+1+1+1,0,none⟩) n n)
 arr:W.heap[w.heap.size+1+1+1]? = some (.cells (kq (ju y l pre).1).toArray 3 (0,0))
 s:Boxed W (w.heap.size+1+1+1+1) 147 (.slice A n c)
 r:∃ Ar nr cr,Boxed W (w.heap.size+1+1) 147 (.slice Ar nr cr)/\IsNum W Ar nr cr (ju y l pre).2
 below:Aa w W
theorem yB{X:World}{row:Option Nat}(hr:∀ r,row=some r->∃ o:Obj,X.heap[r]? = some o/\o.isCells=false){b:Nat}{cs:Array Value}{t:TypeId}{f:Nat × Nat}(hb:X.heap[b]? = some (.cells cs t f)):some b≠row:=fun e=>by
 obtain⟨o,ho,hc⟩:=hr b e.symm;rw[hb]at ho;cases ho;cases hc
theorem kb1(w:World)(A B:En)(n c m e y:Nat)(l:List Nat)(Bl:Nat)(hBl:w.heap.size<=Bl):OwnFrom Bl (OverI w A B n c m e y l):=by
 intro pre X Y row hs hg hr;have hr':∀ r,row=some r->∃ o:Obj,X.heap[r]? = some o/\o.isCells=false:=fun r e=>(hr r e).2
 obtain⟨h1,h2,h3,h4,⟨Ar,nr,cr,h5,h6⟩,h7⟩:=hs;have hlt:∀ {b:Nat} {cs:Array Value} {t:TypeId} {f:Nat × Nat},X.heap[b]? = some (.cells cs t f)->b<X.heap.size:=fun h=>(Ag.1 h).1
 exact⟨h1.kept hg (yB hr' h1),h2.kept hg (yB hr' h2),(hg.block _ (hlt h3) (yB hr' h3)).trans h3,h4.kept hg (yB hr' h4),
  ⟨Ar,nr,cr,h5.kept hg (yB hr' h5),h6.kept hg hr'⟩,h7.grown hg h7.size (fun k e=>Bb hBl (hr k e).1)⟩
set_option linter.unusedSimpArgs false in
theorem zF(A B:En)(n c m e x y:Nat)(w:World)(hx:IsNum w A n c x)(hy:IsNum w B m e y)(hx1:x<10000^250)(hy1:y<10000^250)(hy0:0<y) :
  Calls prog 139 #[.slice A n c,.slice B m e] w
   fun e' w'=>∃ Aq nq cq Ar nr cr,e'=.returned (.tuple #[.slice Aq nq cq,.slice Ar nr cr])/\IsNum w' Aq nq cq (x/y)/\IsNum w' Ar nr cr (x%y)/\Aa w w':=by
 have hn:=hx.le hx1;obtain⟨l,hl,nl,vl,_⟩:=hx;have hln:=hid hl.len;have HY1:=hid hy1;clear hx1 hy1;obtain⟨i0,hi,hz0,hz1,hz2⟩:=info_parts kE;have hmf:∀(fn:Fn) (first cap:Array Value) (w:World),(Instr.makeFunc fn first cap).run prog w=.ok (.func fn first cap) w:=fun _ _ _ _=>rfl
 have hmk:=fun W=>vQ (P:=prog) 147 3 i0 underlying147 hi hz0 hz1 hz2 n oo W
 refine(callsIn_wide (n:=3)).1 ?_;refine callsIn_of_wp_marks func139 rfl trivial ?_ rfl;simp only[ntmps139,CS,AE,Bh,Nat.reduceAdd,Nat.reduceSub,Cw,Cx,CT,CA,Co,BM]
 gi_wp2_with (refine⟨trivial,?_⟩;gi_at_call 175;refine(vaQ _ _ _ _ _).mono ?_;rintro e w'⟨rfl,rfl⟩)
 have hB0:Aa w (((((w.alloc (.cells #[.slice B m e] 147)).alloc (.cells #[.slice (some ⟨w.heap.size+1+1+1,0,none⟩) n n] 147)).alloc (.cells #[.slice none 0 0] 147)).alloc (.cells (kq (List.replicate n 0)).toArray 3)).alloc (.cells #[.slice A n c] 147)) :=
  (((((Au _ w).alloc (Am _) _).alloc (by simp) _).alloc (by simp;omega) _).alloc (by simp;omega) _).alloc (by simp;omega) _
 have hI0:OverI w A B n c m e y l [] (((((w.alloc (.cells #[.slice B m e] 147)).alloc (.cells #[.slice (some ⟨w.heap.size+1+1+1,0,none⟩) n n] 147)).alloc (.cells #[.slice none 0 0] 147)).alloc (.cells (kq (List.replicate n 0)).toArray 3)).alloc (.cells #[.slice A n c] 147)):=by
  have key:∀(X:World) (o:Obj) (b:Nat),b=X.heap.size->(X.alloc o).heap[b]? = some o:=fun X o b hb=>by rw[hb];exact heap_alloc_new X o
  have keep:∀(X:World) (o o':Obj) (b:Nat),X.heap[b]? = some o->(X.alloc o').heap[b]? = some o:=fun X o o' b hb=>(Below.heap_alloc X o' b (Ag.1 hb).1).trans hb
  refine⟨keep _ _ _ _ (keep _ _ _ _ (keep _ _ _ _ (keep _ _ _ _ (key _ _ _ rfl)))),keep _ _ _ _ (keep _ _ _ _ (keep _ _ _ _ (key _ _ _ (by simp)))),?_,key _ _ _ (by simp),⟨none,0,0,keep _ _ _ _ (keep _ _ _ _ (key _ _ _ (by simp))),IsNum.nil⟩,hB0⟩;exact keep _ _ _ _ (key _ _ _ (by simp))
 generalize hW0:(((((w.alloc (.cells #[.slice B m e] 147)).alloc (.cells #[.slice (some ⟨w.heap.size+1+1+1,0,none⟩) n n] 147)).alloc (.cells #[.slice none 0 0] 147)).alloc (.cells (kq (List.replicate n 0)).toArray 3)).alloc (.cells #[.slice A n c] 147))=W0 at *;have hsz:W0.heap.size=w.heap.size+1+1+1+1+1:=by rw[<- hW0];simp
 clear hW0;refine wpIn_rangeFunc_ownG rfl oo (gf:=207) (lb:=#[.pointer (some ⟨w.heap.size+1+1+1+1,0,none⟩)]) rfl trivial (enters_of func207 kr9 rfl)
  (yab 2 oo (w.heap.size+1+1+1+1) w.heap.size A n c l oo _ oo oo hI0.s.cell (Reads.keep hl fun p hp=>hB0.cell hp)) KpB.trans (KpB.book oo oo) (Au _ _) (fun _=>rfl)
  (OverI w A B n c m e y l) (fun _ _ _=>False) (kb1 _ _ _ _ _ _ _ _ _ _ oo) (fun _ _ _ _ _ hs _ _=>hs) hI0
  ?a1 ?assign ?jA ?done ?stop
 case assign =>
  intro q x W K hK
  gi_wp2
  exact hK
 case jA =>
  rintro q pre i W hI hlt;have hmx:prog.follows .mixedOrders=true:=by kernel_rfl
  have hiv:i.1<n:=by have:=i.2;omega
  have hd1:=nl.1.gd_lt i.1;have hrl:=zcq y nl.1 pre i.1;have hqlen:=zL y l pre;have hqs:=vav y l pre;obtain⟨hM,hQ,hArr,hS,⟨Ar,nr,cr,hR,hrn⟩,hB⟩:=hI;obtain⟨rl,hrl1,hrl2,hrl3,hrl4⟩:=hrn;have HRL:=hid hrl;have HQL:=hid hqlen;have HR3:=hid hrl3;have HYW:=hid (hy.below hB);have hnr:nr<=1000:=by
   have h9:IsNum W Ar nr cr (ju y l pre).2:=⟨rl,hrl1,hrl2,hrl3,hrl4⟩
   have:=h9.le (ja7 y nl.1 pre);omega
  have hcMo:=hM.cell;have hcRo:=hR.cell;have hfR:=hR.frozen;have hcRa:=fun o=>jaB o hcRo
  have hlit:=World.ownsRow_lit (base:=W.heap.size) (e:=3) (size:=1) W #[.int .i64 (gd l i.1:Nat)] 1 (Am _) (by unfold maxLen;omega) rfl;have hsrc:Reads (W.alloc (.cells #[.int .i64 (gd l i.1:Nat)] 3)) W.heap.size 1 Ar nr (kq rl):=hrl1.alloc (Am _) _;clear hrl hqlen hrl3 hrl4
  gi_wp2_with (first
   | (gi_at_builtin;refine qab _ rfl (.tmp 18) (.tmp 19) 147 rfl W.heap.size 3 i0 (.int .i64 0) 1 8 underlying147 hi hz0 hz1 hz2 rfl dd (.slice (some ⟨W.heap.size,0,none⟩) 1 1) 1 [.int .i64 (gd l i.1:Nat)] rfl hlit W.heap.size Ar nr cr (kq rl) rfl hsrc (yaT rl) (by unfold maxLen;omega) oo (by simp) ?_;intro v' W1 hown1 hgrow1;obtain⟨A1,c1,rfl⟩:=zh hown1;have hbW1:Below W.heap.size W W1:=((Au _ _).alloc (Am _) _).grown hgrow1 (by simp) (fun g hg=>by simp[Value.ownBlock]at hg;omega);have hR1:=jd hR hbW1;have hM1:=jd hM hbW1;have hcR1:=hR1.cell;have hfR1:=hR1.frozen;have hcM1:=hM1.cell;have hN1:NumV W1 A1 (1+nr) (gd l i.1 :: rl):=(BJ hown1:Reads W1 W1.heap.size 1 A1 (1+nr) _);have hcap1:=qS hown1)
   | (refine⟨trivial,?_⟩;gi_at_call 176;go_must (refine(CallsIn.inRound q (callsIn_wide.2 (jD A1 (1+nr) c1 (gd l i.1 :: rl) _ hN1 oo hcap1 (Small.mk hd1 hrl2.1)))).mono ?_;rintro e1 Wt⟨⟨kt,rfl,hkt,hNt,hnt,hvt⟩,rfl⟩)))
  have HA1:Hid (∀ ad,A1=some ad->W.heap.size<=ad.block):=hid (fun ad ea=>jv hown1 _ (by rw[ea];rfl));have hSl:w.heap.size+1+1+1+1<W.heap.size:=hS.lt;have hQ1:=jd hQ hbW1;have hS1:=jd hS hbW1;have hArr1:Wt.heap[w.heap.size+1+1+1]? = some (.cells (kq (ju y l pre).1).toArray 3 (0,0)):=(hbW1.block _ (Ag.1 hArr).1).trans hArr;obtain⟨R,hRdef⟩:∃ R,R=gd l i.1+10000*(ju y l pre).2:=⟨_,rfl⟩
  have hnumR:IsNum Wt A1 kt c1 R:=⟨_,hNt,hnt,by rw[hvt,hRdef,<- HR3.out];rfl,oo⟩
  have hW3sz:(Wt.setCell ⟨w.heap.size+1+1,0,none⟩ (.slice A1 kt c1)).heap.size=Wt.heap.size:=by simp[World.setCell]
  have hM3:=(jt hM1 (b':=w.heap.size+1+1) oo (.slice A1 kt c1)).alloc (.cells #[.func (.func 177) #[.slice B m e] #[]] 190);have hQ3:=(jt hQ1 (b':=w.heap.size+1+1) oo (.slice A1 kt c1)).alloc (.cells #[.func (.func 177) #[.slice B m e] #[]] 190);have hS3:=(jt hS1 (b':=w.heap.size+1+1) oo (.slice A1 kt c1)).alloc (.cells #[.func (.func 177) #[.slice B m e] #[]] 190);have hR3:=(hR1.set (.slice A1 kt c1)).alloc (.cells #[.func (.func 177) #[.slice B m e] #[]] 190);have hN3:=(hnumR.setCell hR1 (fun a x e=>by cases e) (.slice A1 kt c1)).alloc (.cells #[.func (.func 177) #[.slice B m e] #[]] 190);have hF3:=Boxed.new (Wt.setCell ⟨w.heap.size+1+1,0,none⟩ (.slice A1 kt c1)) 190 (.func (.func 177) #[.slice B m e] #[]);rw[hW3sz]at hF3;have hArr3:((Wt.setCell ⟨w.heap.size+1+1,0,none⟩ (.slice A1 kt c1)).alloc (.cells #[.func (.func 177) #[.slice B m e] #[]] 190)).heap[w.heap.size+1+1+1]? = some (.cells (kq (ju y l pre).1).toArray 3 (0,0)):=by
   rw[Below.heap_alloc _ _ _ (by rw[hW3sz];exact(Ag.1 hArr1).1),Below.heap_setCell _ _ _ _ (by simp)];exact hArr1
  have hbt3:Below w.heap.size Wt ((Wt.setCell ⟨w.heap.size+1+1,0,none⟩ (.slice A1 kt c1)).alloc (.cells #[.func (.func 177) #[.slice B m e] #[]] 190)) :=
   ((Au w.heap.size Wt).setCell (p:=⟨w.heap.size+1+1,0,none⟩) (by simp;omega) _).alloc (by rw[hW3sz];have:=hB.size;have:=hbW1.size;omega) _
  have hB3:=(hB.trans (hbW1.mono hB.size)).trans hbt3;have hk3:∀ D,KeepsFrom D W ((Wt.setCell ⟨w.heap.size+1+1,0,none⟩ (.slice A1 kt c1)).alloc (.cells #[.func (.func 177) #[.slice B m e] #[]] 190)):=fun D =>
   ((ym hbW1).trans ((KeepsOthers.setCell _ _ _).from D)).trans ((KeepsOthers.alloc _ _).from D)
  have hp3:KpB w.heap.size (w.heap.size+1+1+1+1) W ((Wt.setCell ⟨w.heap.size+1+1,0,none⟩ (.slice A1 kt c1)).alloc (.cells #[.func (.func 177) #[.slice B m e] #[]] 190)) :=
   ((Dd hbW1 (by have:=hM.lt;omega) hS.lt).trans (KpB.set (by simp;omega) (by simp;omega) _)).trans ⟨(Au _ _).alloc (by rw[hW3sz];have:=hB.size;have:=hbW1.size;omega) _,Below.heap_alloc _ _ _ (by rw[hW3sz];exact hS1.lt)⟩
  have hbf:w.heap.size+1+1+1+1<Wt.heap.size:=hS1.lt;generalize hbfe:Wt.heap.size=bf at *;generalize ((Wt.setCell ⟨w.heap.size+1+1,0,none⟩ (.slice A1 kt c1)).alloc (.cells #[.func (.func 177) #[.slice B m e] #[]] 190))=W3 at *;have hY3:=hy.below hB3;have hMy:Mod y:=vp HY1.out oo;have hMyd:∀ d,d<=10000->Mod (y*d):=fun d hd=>vp (K:=251) (by
   have h2:y*d<10000^250*10000:=by
    have h3:y*d<=y*10000:=CX _ hd;exact AS h3 (CE HY1.out dd)
   rwa[<- Bn]at h2) oo
  have hMR:Mod R:=vp (K:=pre.length+1) (by rw[hRdef];exact HRL.out) oo;obtain⟨Qd,hQd⟩:∃ Qd,Qd=min 9999 (R/y):=⟨_,rfl⟩
  have eg:∀ args w,(callFunc 178 args).run prog w=.ok (.enter 178 args) w:=enters_of func178 kr9 rfl;have hsearch:∀ V,Below W3.heap.size W3 V->Calls prog 179 #[.int .i64 9999,.func (.func 178) #[] #[.pointer (some ⟨bf,0,none⟩),.pointer (some ⟨w.heap.size+1+1,0,none⟩)]] V
    fun e' w'=>e'=.returned (.int .i64 (Qd:Int))/\Below V.heap.size V w':=fun V hV=>by
   have h:=ybI 9999 178 #[.pointer (some ⟨bf,0,none⟩),.pointer (some ⟨w.heap.size+1+1,0,none⟩)] (fun d=>decide (R<(d+1)*y)) V eg oo
    (fun U d hd hU=>jb1 A1 B kt c1 m e y R d bf (w.heap.size+1+1) U ((hY3.below hV).below hU) ((hN3.below hV).below hU) hMy (hMyd _ oo) hMR hd (jd (jd hF3 hV) hU).cell (jd (jd hR3 hV) hU).cell)
    (fun a b hab _ h=>ybn R y a b hab h)
   refine Calls.mono h ?_;rintro e' w'⟨⟨k,rfl,hk,h1,h2⟩,hb⟩;refine⟨?_,hb⟩;rw[vaX R y k hy0 hk h1 h2,hQd]
  have hQ9:Qd<10000:=oo
  have hQR:y*Qd<=R:=by
   have h1:Qd<=R/y:=oo
   exact Bb (CX _ h1) (Nat.mul_div_le R y)
  have HSR:=hid hsearch;have HQd:=hid hQd;have HRd:=hid hRdef;have HN3:=hid hN3;have HY3:=hid hY3;have HMy:=hid hMy;have HMyd:=hid hMyd;have HMR:=hid hMR;have HQR:=hid hQR;have HK3:=hid hk3;have HP3:=hid hp3;have HA3:=hid hArr3;clear hsearch hQd hRdef hN3 hY3 hMy hMyd hMR hQR hk3 hp3 hArr3 eg hbt3 hnumR hW3sz hArr1 hvt hnt hNt hN1 hown1 hgrow1 hlit hsrc hcRa hcRo hfR hcMo hcR1 hfR1 hcM1 hR1 hM1 hQ1 hS1 hbfe;have hcQ3:=hQ3.cell
  gi_cut [] from 41 (fun wx=>∃ W4,Below W3.heap.size W3 W4/\wx=W4.setCell ⟨w.heap.size+1+1+1,i.1,none⟩ (.int .i64 (Qd:Int)))
  case first =>
   gi_region_with_o (refine⟨trivial,?_⟩;gi_at_call 179;go_must (refine(CallsIn.inRound q (callsIn_wide.2 (HSR.out _ (by exact⟨rfl,rfl,rfl,Am _,fun _ _=>rfl⟩)))).mono ?_;rintro e1 W4⟨rfl,hb4⟩;have hQ4:=jd hQ3 (qb hb4);have hcQ4:=hQ4.cell;have hArr4:W4.heap[w.heap.size+1+1+1]? = some (.cells (kq (ju y l pre).1).toArray 3 (0,0)):=((qb hb4).block _ (Ag.1 HA3.out).1).trans HA3.out;have hcA4:W4.cell? ⟨w.heap.size+1+1+1,i.1,none⟩=some (.int .i64 ((ju y l pre).1.getD i.1 0:Nat)):=(by rw[cell_of_row _ _ _ _ _ _ hArr4,BU,vH _ _ (by rw[HQL.out];exact hiv)]);have hfA4:W4.frozen? ⟨w.heap.size+1+1+1,i.1,none⟩=false:=frozen_of_row _ _ _ _ _ hArr4;have HA4:=hid hArr4;clear hArr4))
   all_goals (gi_wp2_with fail;gi_meet;exact⟨W4,qb hb4,rfl⟩)
  case rest =>
   obtain⟨W4,hb4,rfl⟩:=hcut;have hArr4:W4.heap[w.heap.size+1+1+1]? = some (.cells (kq (ju y l pre).1).toArray 3 (0,0)):=(hb4.block _ (Ag.1 HA3.out).1).trans HA3.out;have hArr5:(W4.setCell ⟨w.heap.size+1+1+1,i.1,none⟩ (.int .i64 (Qd:Int))).heap[w.heap.size+1+1+1]? = some (.cells (kq ((ju y l pre).1.set i.1 Qd)).toArray 3 (0,0)):=kaQ hArr4 i.1 Qd;have hM5:=yY (jd hM3 hb4) (b':=w.heap.size+1+1+1) oo i.1 (.int .i64 (Qd:Int));have hQ5:=yY (jd hQ3 hb4) (b':=w.heap.size+1+1+1) oo i.1 (.int .i64 (Qd:Int));have hS5:=yY (jd hS3 hb4) (b':=w.heap.size+1+1+1) oo i.1 (.int .i64 (Qd:Int));have hR5:=yY (jd hR3 hb4) (b':=w.heap.size+1+1+1) oo i.1 (.int .i64 (Qd:Int));have hF5:=yY (jd hF3 hb4) (b':=w.heap.size+1+1+1) oo i.1 (.int .i64 (Qd:Int));have hA5:=fun D=>((HK3.out D).trans (ym hb4)).trans ((KeepsOthers.setCell W4 ⟨w.heap.size+1+1+1,i.1,none⟩ (.int .i64 (Qd:Int))).from D)
   have hp5:KpB w.heap.size (w.heap.size+1+1+1+1) W (W4.setCell ⟨w.heap.size+1+1+1,i.1,none⟩ (.int .i64 (Qd:Int))):=(HP3.out.trans (Dd hb4 hB3.size hS3.lt)).trans (KpB.set (by simp;omega) (by simp) _);have hB5:Aa w (W4.setCell ⟨w.heap.size+1+1+1,i.1,none⟩ (.int .i64 (Qd:Int))):=(hB3.trans (hb4.mono hB3.size)).setCell (p:=⟨w.heap.size+1+1+1,i.1,none⟩) (by simp;omega) _;have hN5:IsNum (W4.setCell ⟨w.heap.size+1+1+1,i.1,none⟩ (.int .i64 (Qd:Int))) A1 kt c1 R:=(HN3.out.below hb4).setOff (fun ad ea=>by have:=HA1.out ad ea;simp;omega) _;generalize W4.setCell ⟨w.heap.size+1+1+1,i.1,none⟩ (.int .i64 (Qd:Int))=W5 at *;have hY5:=hy.below hB5;have hcM5:=hM5.cell;have hcQ5:=hQ5.cell;have hcR5:=hR5.cell;have hfR5:=hR5.frozen;have hcF5:=hF5.cell;have hcA5:W5.cell? ⟨w.heap.size+1+1+1,i.1,none⟩=some (.int .i64 (Qd:Int)):=by
    rw[cell_of_row _ _ _ _ _ _ hArr5,BU,vH _ _ (by rw[List.length_set,HQL.out];exact hiv)];congr 2;have:=HQL.out;rw[Ap,List.getElem?_set];simp[this,hiv]
   have HY5:=hid hY5;have HN5:=hid hN5;have HK5:=hid hA5;have HP5:=hid hp5;have HA5:=hid hArr5;clear hY5 hN5 hA5 hp5 hArr5 hArr4 hb4 hM3 hQ3 hS3 hR3 hF3 hcQ3 HSR HK3 HP3 HA3 HN3 HY3 hB3
   gi_wp2_with fail
   refine Code.wpIn_mono (Q:=fun ex _ wx=>ex=.normal/\∃ W7 A7 n7 c7,Below W5.heap.size W5 W7/\IsNum W7 A7 n7 c7 (R-y*Qd)/\wx=W7.setCell ⟨w.heap.size+1+1,0,none⟩ (.slice A7 n7 c7)) ?rest ?first
   case first =>
    clear HK5 HP5 HA5 HRL HQL HR3 HYW HRd HQd hB5 hM5 hS5 hcM5 hArr hS hB hM hQ hR hbW1 hrl1 hrl2 HA1 hqs hd1 hlt hI0 hB0 hy;have hS0:W5.drew.cell? ⟨w.heap.size+1,0,none⟩=some (.slice (some ⟨w.heap.size+1+1+1,0,none⟩) n n)/\W5.drew.cell? ⟨bf,0,none⟩=some (.func (.func 177) #[.slice B m e] #[])/\W5.drew.cell? ⟨w.heap.size+1+1+1,i.1,none⟩=some (.int .i64 (Qd:Int)):=⟨hcQ5,hcF5,hcA5⟩
    refine zbI (fun X=>X.cell? ⟨w.heap.size+1,0,none⟩=some (.slice (some ⟨w.heap.size+1+1+1,0,none⟩) n n)/\X.cell? ⟨bf,0,none⟩=some (.func (.func 177) #[.slice B m e] #[])/\X.cell? ⟨w.heap.size+1+1+1,i.1,none⟩=some (.int .i64 (Qd:Int))) hmx kr9 (fun h=>by obtain⟨_,_,h1,_⟩:=h;cases h1) hS0 (fun hHeld => ?_);refine wpAnyH_take (i:=1) (v := ?v1) rfl kr9 kr9 kr9 (fun _ _ _ h=>h) (Or.inl ⟨by rfl,?hy1⟩) hHeld ?more1
    case hy1=>(intro X hX;obtain⟨hx1,hx2,hx3⟩:=hX;go_simp;try with_reducible rfl)
    try simp only[Act.put,Ah,Al,Ak]
    refine wpAnyH_take (i:=2) (v := ?v2) rfl kr9 kr9 kr9 (fun _ _ _ h=>h) (Or.inl ⟨by rfl,?hy2⟩) hHeld ?more2
    case hy2=>(intro X hX;obtain⟨hx1,hx2,hx3⟩:=hX;go_simp;try with_reducible rfl)
    try simp only[Act.put,Ah,Al,Ak]
    refine wpAnyH_take (i:=3) (v := ?v3) rfl kr9 kr9 kr9 (fun _ _ _ h=>h) (Or.inl ⟨by rfl,?hy3⟩) hHeld ?more3
    case hy3=>(intro X hX;obtain⟨hx1,hx2,hx3⟩:=hX;go_simp;try with_reducible rfl)
    try simp only[Act.put,Ah,Al,Ak]
    refine wpAnyH_take (i:=4) (v := ?v4) rfl kr9 kr9 kr9 (fun _ _ _ h=>h) (Or.inl ⟨by rfl,?hy4⟩) hHeld ?more4
    case hy4=>(intro X hX;obtain⟨hx1,hx2,hx3⟩:=hX;go_simp;try with_reducible rfl)
    try simp only[Act.put,Ah,Al,Ak]
    refine wpAnyH_take (i:=5) (v := ?v5) rfl kr9 kr9 kr9 (fun _ _ _ h=>h) (Or.inl ⟨by rfl,?hy5⟩) hHeld ?more5
    case hy5=>(intro X hX;obtain⟨hx1,hx2,hx3⟩:=hX;go_simp;try with_reducible rfl)
    try simp only[Act.put,Ah,Al,Ak]
    refine wpAnyH_ready (rs:=[0,6]) kr9 (by simp) (AllReadyH.cons rfl (fun K hK => ?_) (AllReadyH.cons rfl (fun K hK => ?_) AllReadyH.nil))
    ·go_simp;refine hK.out _ _ hS0 (fun _ => ?_);clear hK K
     try simp only[Act.put,Ah,Al,Ak]
     refine wpAnyH_ready (rs:=[6]) kr9 (by simp) (AllReadyH.cons rfl (fun K hK => ?_) AllReadyH.nil);go_simp;refine Calls.mono (ka2 B m e y Qd _ (by exact HY5.out) HMy.out hQ9) ?_;rintro e1 W6⟨A6,n6,c6,rfl,h6,hb6⟩;have hb6':=qb hb6;have hS6:W6.cell? ⟨w.heap.size+1,0,none⟩=some (.slice (some ⟨w.heap.size+1+1+1,0,none⟩) n n)/\W6.cell? ⟨bf,0,none⟩=some (.func (.func 177) #[.slice B m e] #[])/\W6.cell? ⟨w.heap.size+1+1+1,i.1,none⟩=some (.int .i64 (Qd:Int)):=⟨(jd hQ5 hb6').cell,(jd hF5 hb6').cell,(hb6'.cell (p:=⟨w.heap.size+1+1+1,i.1,none⟩) (by have:=hF5.lt;simp;omega)).trans hcA5⟩
     have hR6:Boxed W6 (w.heap.size+1+1) 147 (.slice A1 kt c1):=jd hR5 hb6';have hcR6:=hR6.cell;have hN6:=hid (HN5.out.below hb6');refine hK.out _ _ hS6 (fun hHeld6 => ?_);clear hK K
     try simp only[Act.put,Ah,Al,Ak]
     refine wpAnyH_ready (rs:=[7]) kr9 (by simp) (AllReadyH.cons rfl (fun K hK => ?_) AllReadyH.nil);go_simp;refine Calls.mono (vI A1 A6 kt c1 n6 c6 R (y*Qd) _ (by exact hN6.out) (by exact h6) HMR.out (HMyd.out _ (Ch hQ9)) HQR.out) ?_;rintro e1 W7⟨A7,n7,c7,rfl,h7,hb7⟩;have hS7:W7.cell? ⟨w.heap.size+1,0,none⟩=some (.slice (some ⟨w.heap.size+1+1+1,0,none⟩) n n)/\W7.cell? ⟨bf,0,none⟩=some (.func (.func 177) #[.slice B m e] #[])/\W7.cell? ⟨w.heap.size+1+1+1,i.1,none⟩=some (.int .i64 (Qd:Int)):=⟨(jd (jd hQ5 hb6') hb7).cell,(jd (jd hF5 hb6') hb7).cell,(hb7.cell (p:=⟨w.heap.size+1+1+1,i.1,none⟩) (by have:=(jd hF5 hb6').lt;simp;omega)).trans hS6.2.2⟩
     have hR7:=jd hR6 hb7;have hcR7:=hR7.cell;have hfR7:=hR7.frozen;refine hK.out _ _ hS7 (fun hHeld7 => ?_);clear hK K
     try simp only[Act.put,Ah,Al,Ak]
     refine wpAnyH_ready (rs:=[8]) kr9 (by simp) (AllReadyH.cons rfl (fun K hK => ?_) AllReadyH.nil);go_simp;refine hK.out _ _ ⟨(World.cell?_setCell_other _ _ _ _ (by simp<;>omega)).trans hS7.1,(World.cell?_setCell_other _ _ _ _ (by simp<;>omega)).trans hS7.2.1,(World.cell?_setCell_other _ _ _ _ (by simp<;>omega)).trans hS7.2.2⟩ (fun _ => ?_);refine wpAnyH_done kr9 ?_ _;exact⟨rfl,W7,A7,n7,c7,hb6'.trans (hb7.mono hb6'.size),h7,rfl⟩
    ·go_simp;refine Calls.mono (ka2 B m e y Qd _ (by exact HY5.out) HMy.out hQ9) ?_;rintro e1 W6⟨A6,n6,c6,rfl,h6,hb6⟩;have hb6':=qb hb6;have hS6:W6.cell? ⟨w.heap.size+1,0,none⟩=some (.slice (some ⟨w.heap.size+1+1+1,0,none⟩) n n)/\W6.cell? ⟨bf,0,none⟩=some (.func (.func 177) #[.slice B m e] #[])/\W6.cell? ⟨w.heap.size+1+1+1,i.1,none⟩=some (.int .i64 (Qd:Int)):=⟨(jd hQ5 hb6').cell,(jd hF5 hb6').cell,(hb6'.cell (p:=⟨w.heap.size+1+1+1,i.1,none⟩) (by have:=hF5.lt;simp;omega)).trans hcA5⟩
     have hR6:Boxed W6 (w.heap.size+1+1) 147 (.slice A1 kt c1):=jd hR5 hb6';have hcR6:=hR6.cell;have hN6:=hid (HN5.out.below hb6');refine hK.out _ _ hS6 (fun hHeld6 => ?_);clear hK K
     try simp only[Act.put,Ah,Al,Ak]
     refine wpAnyH_ready (rs:=[0]) kr9 (by simp) (AllReadyH.cons rfl (fun K hK => ?_) AllReadyH.nil);go_simp;refine hK.out _ _ hS6 (fun _ => ?_);clear hK K
     try simp only[Act.put,Ah,Al,Ak]
     refine wpAnyH_ready (rs:=[7]) kr9 (by simp) (AllReadyH.cons rfl (fun K hK => ?_) AllReadyH.nil);go_simp;refine Calls.mono (vI A1 A6 kt c1 n6 c6 R (y*Qd) _ (by exact hN6.out) (by exact h6) HMR.out (HMyd.out _ (Ch hQ9)) HQR.out) ?_;rintro e1 W7⟨A7,n7,c7,rfl,h7,hb7⟩;have hS7:W7.cell? ⟨w.heap.size+1,0,none⟩=some (.slice (some ⟨w.heap.size+1+1+1,0,none⟩) n n)/\W7.cell? ⟨bf,0,none⟩=some (.func (.func 177) #[.slice B m e] #[])/\W7.cell? ⟨w.heap.size+1+1+1,i.1,none⟩=some (.int .i64 (Qd:Int)):=⟨(jd (jd hQ5 hb6') hb7).cell,(jd (jd hF5 hb6') hb7).cell,(hb7.cell (p:=⟨w.heap.size+1+1+1,i.1,none⟩) (by have:=(jd hF5 hb6').lt;simp;omega)).trans hS6.2.2⟩
     have hR7:=jd hR6 hb7;have hcR7:=hR7.cell;have hfR7:=hR7.frozen;refine hK.out _ _ hS7 (fun hHeld7 => ?_);clear hK K
     try simp only[Act.put,Ah,Al,Ak]
     refine wpAnyH_ready (rs:=[8]) kr9 (by simp) (AllReadyH.cons rfl (fun K hK => ?_) AllReadyH.nil);go_simp;refine hK.out _ _ ⟨(World.cell?_setCell_other _ _ _ _ (by simp<;>omega)).trans hS7.1,(World.cell?_setCell_other _ _ _ _ (by simp<;>omega)).trans hS7.2.1,(World.cell?_setCell_other _ _ _ _ (by simp<;>omega)).trans hS7.2.2⟩ (fun _ => ?_);refine wpAnyH_done kr9 ?_ _;exact⟨rfl,W7,A7,n7,c7,hb6'.trans (hb7.mono hb6'.size),h7,rfl⟩
   case rest =>
    rintro _ a7 _⟨rfl,W7,A7,n7,c7,hb7,hN7,rfl⟩;have hR7:=jd hR5 hb7;have hW5:=hB5.size;have hlt5:w.heap.size+1+1+1<W5.heap.size:=(Ag.1 HA5.out).1;have hst:ju y l (pre++[i])=((ju y l pre).1.set i.1 Qd,R-y*Qd):=by
     rw[kaG];unfold vK;rw[<- HRd.out,<- HQd.out]
    refine⟨((HK5.out _).trans (ym hb7)).trans ((KeepsOthers.setCell _ _ _).from _),(HP5.out.trans (Dd hb7 hW5 hS5.lt)).trans (KpB.set (by simp;omega) (by simp<;>omega) _),?_⟩;refine⟨jt (jd hM5 hb7) oo _,jt (jd hQ5 hb7) oo _,?_,jt (jd hS5 hb7) oo _,⟨A7,n7,c7,hR7.set _,by rw[hst];exact hN7.setCell hR7 (fun a x e=>by cases e) _⟩,(hB5.trans (hb7.mono hW5)).setCell (p:=⟨w.heap.size+1+1,0,none⟩) (by simp;omega) _⟩;rw[hst,Below.heap_setCell _ _ _ _ (by simp),hb7.block _ hlt5];exact HA5.out
 case done =>
  rintro D ys W hD rfl hI hK;have hmx:prog.follows .mixedOrders=true:=by kernel_rfl
  obtain⟨hall1,hall2⟩:=zbG y l nl.1 n hln.out hy0;obtain⟨hM,hQ,hArr,hS,⟨Ar,nr,cr,hR,hrn⟩,hB⟩:=hI;have hqs:=vav y l (yai (bk n) n);have hqlen:=zL y l (yai (bk n) n);generalize ju y l (yai (bk n) n)=qr at *;obtain⟨ql,rr⟩:=qr;simp only at hall1 hall2 hArr hrn hqs hqlen;have hnum:NumV W (some ⟨w.heap.size+1+1+1,0,none⟩) n ql:=by
   rw[<- hqlen];exact ybd hArr
  have hcQ:=hQ.cell;have hcR:=hR.cell;have hfQ:=hQ.frozen;have hfR:=hR.frozen;have HV1:=hid hall1;have HV2:=hid hall2;have HR:=hid hrn;have HN:=hid hnum;clear hall1 hall2 hrn hnum hqlen
  gi_wp2
  gi_region_with (refine⟨trivial,?_⟩;gi_at_call 176;go_must (refine(callsIn_wide.2 (jD (some ⟨w.heap.size+1+1+1,0,none⟩) n n ql _ (by exact HN.out) oo (Am _) hqs)).mono ?_;rintro e1 Wt⟨⟨kt,rfl,hkt,hNt,hnt,hvt⟩,rfl⟩))
  all_goals gi_wp2
  all_goals
   have hQ2:=hQ.set (.slice (some ⟨w.heap.size+1+1+1,0,none⟩) kt n);have hR2:=jt hR (b':=w.heap.size+1) oo (.slice (some ⟨w.heap.size+1+1+1,0,none⟩) kt n);have hQ3:=jt hQ2 (b':=w.heap.size+1+1) oo (.slice Ar nr cr);have hR3:=hR2.set (.slice Ar nr cr);have hq1:IsNum W (some ⟨w.heap.size+1+1+1,0,none⟩) kt n (x/y):=⟨_,hNt,hnt,by rw[hvt,HV1.out,vl],hkt⟩
   have hq3:=(hq1.setCell hQ (fun a x e=>by cases e) (.slice (some ⟨w.heap.size+1+1+1,0,none⟩) kt n)).setCell hR2 (fun a x e=>by cases e) (.slice Ar nr cr);have hr1:IsNum W Ar nr cr (x%y):=by rw[<- vl,<- HV2.out];exact HR.out
   have hr3:=(hr1.setCell hQ (fun a x e=>by cases e) (.slice (some ⟨w.heap.size+1+1+1,0,none⟩) kt n)).setCell hR2 (fun a x e=>by cases e) (.slice Ar nr cr);have hB3:=(hB.setCell (p:=⟨w.heap.size+1,0,none⟩) (by simp) (.slice (some ⟨w.heap.size+1+1+1,0,none⟩) kt n)).setCell (p:=⟨w.heap.size+1+1,0,none⟩) (by simp;omega) (.slice Ar nr cr);have hK3:=(Below.heap_setCell (W.setCell ⟨w.heap.size+1,0,none⟩ (.slice (some ⟨w.heap.size+1+1+1,0,none⟩) kt n)) ⟨w.heap.size+1+1,0,none⟩ (.slice Ar nr cr) D (by simp;omega)).trans ((Below.heap_setCell W ⟨w.heap.size+1,0,none⟩ (.slice (some ⟨w.heap.size+1+1+1,0,none⟩) kt n) D (by simp;omega)).trans hK);generalize ((W.setCell ⟨w.heap.size+1,0,none⟩ (.slice (some ⟨w.heap.size+1+1+1,0,none⟩) kt n)).setCell ⟨w.heap.size+1+1,0,none⟩ (.slice Ar nr cr))=Wf at *;have hg:=grownBy_putObj' Wf.drew D (.deferred none);have hKd:∀ r,some D=some r->∃ o:Obj,Wf.drew.heap[r]? = some o/\o.isCells=false:=fun r e=>by cases e;exact⟨_,hK3,rfl⟩
   have hQ4:Boxed (Wf.drew.putObj D (.deferred none)) (w.heap.size+1) 147 _:=Boxed.kept (W:=Wf.drew) hQ3 hg (yB hKd hQ3);have hR4:Boxed (Wf.drew.putObj D (.deferred none)) (w.heap.size+1+1) 147 _:=Boxed.kept (W:=Wf.drew) hR3 hg (yB hKd hR3);have hq4:IsNum (Wf.drew.putObj D (.deferred none)) _ _ _ _:=IsNum.kept (W:=Wf.drew) hq3 hg hKd;have hr4:IsNum (Wf.drew.putObj D (.deferred none)) _ _ _ _:=IsNum.kept (W:=Wf.drew) hr3 hg hKd;have hB4:Aa w (Wf.drew.putObj D (.deferred none)):=Below.trans (ze hB3 1) (belowK_b (w:=w) (Am _) Wf.drew D _ _ oo hK3 rfl rfl);have hcQ4:=hQ4.cell;have hcR4:=hR4.cell;refine⟨by simp,.inl ⟨_,_,rfl,run_takeDeferred (w:=Wf.drew) hK3,?_⟩⟩;refine⟨_,?res,_,_,_,_,_,_,rfl,hq4,hr4,hB4⟩
   case res =>
    simp[results,f139,go_sem,hcQ4,hcR4]
 case stop =>
  rintro D cd pre W hD _ h;exact h.elim
end Go.Proofs.YtdiecekagiledaaGreatDoor
