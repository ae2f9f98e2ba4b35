/- Words for memory: what a slice of ints or a slice of whatever cells reads. -/
import Derived.Deep.AppendLies
import Derived.LoopIn
import Derived.LoopNIn
import Derived.OwnWalkIn
import Derived.RangeFuncBound
import Derived.RangeFuncNested
import Derived.Shelf.RegionOpen
import Derived.Test.YtdiecekagiledaaGreatDoorProg
import Derived.WalkKit
import Derived.Test.YtdiecekagiledaaGreatDoorVPlain3
set_option maxRecDepth 100000
set_option maxHeartbeats 2000000
namespace Go.Proofs.YtdiecekagiledaaGreatDoor
open Go Go.RowKit Go.Proofs.Tryz
theorem qi(a:Addr)(n:Nat):(a.add n).block=a.block:=by unfold Addr.add;split<;>rfl
def Reads(w:World)(B size:Nat)(A:En)(n:Nat)(xs:List Value):Prop :=
 xs.length=n*size/\(0<n->∃ ad,A=some ad/\ad.block<B/\∀ j u,xs[j]? = some u->w.cell? (ad.add j)=some u)
section
variable {w w':World} {B B' size n:Nat} {A:En} {xs:List Value}
theorem Reads.nil:Reads w B size A 0 []:=⟨by simp,fun h=>absurd h oo⟩
theorem Reads.at_{k:Nat}(h:Reads w B 1 A n xs)(hk:k<n):∃ ad u,A=some ad/\ad.block<B/\xs[k]? = some u/\w.cell? (ad.add k)=some u:=by
 obtain⟨ad,e,hb,hc⟩:=h.2 oo;have hl:k<xs.length:=by have:=h.1;omega
 exact⟨ad,xs[k],e,hb,Ay hl,hc k _ (Ay hl)⟩
theorem Reads.keep(h:Reads w B size A n xs)(hk:∀ p:Addr,p.block<B->w'.cell? p=w.cell? p):Reads w' B size A n xs :=
 ⟨h.1,fun hn=>by
  obtain⟨ad,e,hb,hc⟩:=h.2 hn;exact⟨ad,e,hb,fun j u hu=>(hk _ (by rw[qi];exact hb)).trans (hc j u hu)⟩⟩
theorem Reads.more(h:Reads w B size A n xs)(hB:B<=B'):Reads w B' size A n xs :=
 ⟨h.1,fun hn=>by
  obtain⟨ad,e,hb,hc⟩:=h.2 hn;exact⟨ad,e,oo,hc⟩⟩
theorem Reads.below(h:Reads w B size A n xs)(hb:Below B w w'):Reads w' B size A n xs:=h.keep fun _ hp=>hb.cell hp
theorem Reads.drewN(h:Reads w B size A n xs)(k:Nat):Reads (w.drewN k) B size A n xs:=h
theorem Reads.alloc(h:Reads w B size A n xs)(hB:B<=w.heap.size)(o:Obj):Reads (w.alloc o) B size A n xs:=h.keep fun p hp=>World.cell?_alloc_lt w o p oo
theorem Reads.setCell(h:Reads w B size A n xs){p:Addr}(hB:B<=p.block)(u:Value):Reads (w.setCell p u) B size A n xs :=
 h.keep fun q hq=>World.cell?_setCell_other w p q u (fun e=>by subst e;omega)
theorem Reads.grown(h:Reads w B size A n xs){row:Option Nat}(hg:w.grownBy w' row)(hB:B<=w.heap.size)(hr:∀ g,row=some g->B<=g):Reads w' B size A n xs :=
 h.keep fun p hp=>World.cell?_of_block (hg.block p.block oo (fun e=>by have:=hr _ e.symm;omega))
theorem Reads.of_own{base:Nat}{e:TypeId}{c:Nat}(h:w.ownsRow base e size (.slice A n c) n xs):Reads w w.heap.size size A n xs:=by
 refine⟨h.1,fun hn => ?_⟩;obtain⟨g,cap,hv,_,hlt⟩:=h.form hn;have hA:A=some ⟨g,0,none⟩:=by injection hv
 subst hA;exact⟨_,rfl,hlt,h.cells (g:=g) rfl⟩
abbrev BJ:=@Reads.of_own
theorem Reads.take(h:Reads w B 1 A n xs){k:Nat}(hk:k<=n):Reads w B 1 A k (xs.take k):=by
 refine⟨by rw[Bu,h.1];omega,fun hn => ?_⟩;obtain⟨ad,e,hb,hc⟩:=h.2 oo;exact⟨ad,e,hb,fun j u hu=>hc j u (by
  rw[AW]at hu;split at hu
  ·exact hu
  ·cases hu)⟩
end
def kq(l:List Nat):List Value:=l.map fun d:Nat=>.int .i64 (d:Int)
theorem zU(l:List Nat):(kq l).length=l.length:=by simp[kq]
theorem yaT(l:List Nat):∀ u∈kq l,u.oneCell'=true:=fun u hu=>by
 obtain⟨d,_,rfl⟩:=BR.1 hu;rfl
theorem qbX(l:List Nat)(k:Nat):(kq l).take k=kq (l.take k):=by simp[kq]
theorem vH(l:List Nat)(k:Nat)(h:k<l.length):(kq l)[k]? = some (.int .i64 ((l.getD k 0:Nat):Int)):=by
 unfold kq;rw[Dq,Ap,Ay h];rfl
theorem kag(l m:List Nat):kq (l++m)=kq l++kq m:=by simp[kq]
theorem km(l:List Nat)(D:Int)(h:0<=D):kq l++[.int .i64 D]=kq (l++[D.toNat]):=by
 rw[kag];have:((D.toNat:Nat):Int)=D:=oo
 simp[kq,this]
def NumV(w:World)(A:En)(n:Nat)(l:List Nat):Prop:=Reads w w.heap.size 1 A n (kq l)
theorem NumV.len{w:World}{A:En}{n:Nat}{l:List Nat}(h:NumV w A n l):n=l.length:=by
 have:=h.1;rw[zU]at this;omega
theorem NumV.cell{w:World}{A:En}{n:Nat}{l:List Nat}(h:NumV w A n l)(k:Nat)(hk:k<n) :
  ∃ ad,A=some ad/\ad.block<w.heap.size/\w.cell? (ad.add k)=some (.int .i64 ((l.getD k 0:Nat):Int)):=by
 obtain⟨ad,u,e,hb,hu,hc⟩:=Reads.at_ h hk;rw[vH l k (by rw[<- h.len];exact hk)]at hu;injection hu with hu;exact⟨ad,e,hb,by rw[hc,hu]⟩
theorem NumV.below{w w':World}{A:En}{n:Nat}{l:List Nat}(h:NumV w A n l)(hb:Aa w w'):NumV w' A n l:=(Reads.below h hb).more hb.size
theorem NumV.take{w:World}{A:En}{n:Nat}{l:List Nat}(h:NumV w A n l){k:Nat}(hk:k<=n):NumV w A k (l.take k):=by
 have:=Reads.take h hk
 rwa[qbX]at this
theorem qS{w:World}{base:Nat}{e:TypeId}{size:Nat}{A:En}{n c:Nat}{xs:List Value}(h:w.ownsRow base e size (.slice A n c) n xs):n<=c:=by
 rcases h.2 with⟨h1,h2⟩|⟨g,cap,cur,h1,_,_,h2,_⟩
 ·omega
 ·injection h1 with _ _ h3;omega
theorem ze{B:Nat}{a w:World}(h:Below B a w)(n:Nat):Below B a (w.drewN n):=⟨h.os,h.tape,h.output,h.size,h.block⟩
theorem jv{w:World}{base:Nat}{e:TypeId}{size:Nat}{v:Value}{n:Nat}{xs:List Value}(h:w.ownsRow base e size v n xs):∀ k,v.ownBlock=some k->base<=k:=by
 intro k hk;rcases h.2 with⟨h1,h2⟩|⟨g,cap,cur,h1,hb,_,h2,_⟩
 ·rw[h1]at hk;simp[Value.ownBlock]at hk
 ·rw[h1]at hk;simp[Value.ownBlock]at hk;omega
theorem zh{w:World}{base:Nat}{e:TypeId}{size:Nat}{v:Value}{n:Nat}{xs:List Value}(h:w.ownsRow base e size v n xs):∃ A c,v=.slice A n c:=by
 rcases h.2 with⟨h1,h2⟩|⟨g,cap,cur,h1,hb,_,h2,_⟩
 ·exact⟨none,0,by rw[h1,h2]⟩
 ·exact⟨_,_,h1⟩
theorem NumV.nil{w:World}{A:En}:NumV w A 0 []:=Reads.nil
open Go.Lib
theorem qcO(A:En)(n c:Nat)(i:Int)(w:World)(hi:(n:Int)<=i) :
  Calls prog 210 #[.slice A n c,.int .i64 i] w fun e w'=>e=.returned (.int .i64 0)/\w'=w:=by
 go_enter func210,ntmps210;go_wp2;go_ret;exact⟨rfl,rfl⟩
theorem jc3(ad:Addr)(n c:Nat)(i:Nat)(d:Int)(w:World)(hi:i<n)(hc:w.cell? (ad.add i)=some (.int .i64 d)) :
  Calls prog 210 #[.slice (some ad) n c,.int .i64 (i:Int)] w fun e w'=>e=.returned (.int .i64 d)/\w'=w:=by
 go_enter func210,ntmps210;go_wp2;go_ret;exact⟨rfl,rfl⟩
theorem za2(A:En)(n c:Nat)(l:List Nat)(i:Nat)(w:World)(h:NumV w A n l) :
  Calls prog 210 #[.slice A n c,.int .i64 (i:Int)] w fun e w'=>e=.returned (.int .i64 ((l.getD i 0:Nat):Int))/\w'=w:=by
 rcases AJ i n with hi|hi
 ·obtain⟨ad,rfl,_,hc⟩:=h.cell i hi;exact jc3 ad n c i _ w hi hc
 ·have e:l.getD i 0=0:=by
   rw[Ap,AZ (by rw[<- h.len];exact hi)];rfl
  rw[e];exact qcO A n c i w oo
theorem yae{l:List Nat}{k:Nat}:(0<k->l.getD (k-1) 0≠0)->(∀ j,k<=j->l.getD j 0=0)->Small l->k<=l.length->Norm (l.take k)/\val (l.take k)=val l :=
 fun h1 h2 h3 h4=>⟨vb0 h3 k h4 h1,jb9 l k h2⟩
theorem jD(A:En)(n c:Nat)(l:List Nat)(w:World)(h:NumV w A n l)(hn:n<=1000000)(hcap:n<=c)(hs:Small l) :
  Calls prog 176 #[.slice A n c] w fun e w'=>(∃ k,e=.returned (.slice A k c)/\k<=n/\NumV w A k (l.take k)/\Norm (l.take k)/\val (l.take k)=val l)/\w'=w:=by
 have hl:=h.len;have H:=hid h;have HL:=hid hl;clear hl h;go_enter func176,ntmps176;go_wp2;go_loop[0] (fun v=>∃ k:Nat,k<=n/\v=.slice A k c/\Hid (∀ j,k<=j->l.getD j 0=0)) (fun v=>match v with | .slice _ k _=>k|_=>0)
 case atStart=>exact⟨n,Am _,rfl,fun j hj=>by rw[Ap,AZ (by have:=HL.out;omega)];rfl⟩
 case round =>
  obtain⟨k,hk,rfl,hz⟩:=hrel;rcases Az k with rfl|hp
  ·go_wp2;go_ret;obtain⟨h1,h2⟩:=yae (l:=l) (k:=0) (fun h=>absurd h oo) hz hs oo;exact⟨⟨0,rfl,oo,H.out.take oo,h1,h2⟩,rfl⟩
  ·obtain⟨ad,hA,_,hc⟩:=H.out.cell (k-1) oo;subst hA;by_cases h0:l.getD (k-1) 0=0
   ·rw[h0]at hc;have HZ:=hid h0;clear h0;go_wp2;go_round
    case rel=>exact⟨k-1,oo,by first|rfl|go_num,fun j hj=>by
     rcases Dc hj with e|e
     ·rw[<- e];exact HZ.out
     ·exact hz j oo⟩
    case measure=>simp;try omega
   ·have hb:((l.getD (k-1) 0:Nat):Int)≠0:=oo
    generalize hg:((l.getD (k-1) 0:Nat):Int)=d at *;have hd:(d==0)=false:=by simpa using hb
    have HB:=hid h0;have HG:=hid hg;clear h0 hg hb;go_wp2;go_ret;obtain⟨h1,h2⟩:=yae (l:=l) (k:=k) (fun _=>HB.out) hz hs (by have:=HL.out;omega);exact⟨⟨k,rfl,hk,H.out.take hk,h1,h2⟩,rfl⟩
theorem jb2(A B:En)(n c m d:Nat)(l k:List Nat)(i:Nat)(b1 b2:Nat)(w:World)(hl:NumV w A n l)(hk:NumV w B m k)(hsl:Small l)(hsk:Small k)
  (h1:w.cell? ⟨b1,0,none⟩=some (.slice A n c)) (h2:w.cell? ⟨b2,0,none⟩=some (.slice B m d)) :
  Calls prog 213 #[.int .i64 (i:Int),.pointer (some ⟨b1,0,none⟩),.pointer (some ⟨b2,0,none⟩)] w
   fun e w'=>e=.returned (.int .i64 (((l.getD i 0:Nat):Int)+((k.getD i 0:Nat):Int)))/\∃ q,w'=w.drewN q:=by
 have b1':=hsl.get i;have b2':=hsk.get i;have C1:=fun q=>za2 A n c l i (w.drewN q) hl
 have C2:=fun q=>za2 B m d k i (w.drewN q) hk
 generalize l.getD i 0=x at *;generalize k.getD i 0=y at *;clear hl hk hsl hsk;have hx:((x:Int))<10000:=oo
 have hy:((y:Int))<10000:=oo
 have D1:=hid C1;have D2:=hid C2;clear C1 C2 b1' b2';go_enter func213,ntmps213;go_wp2;go_quiet ((go_at_call 210;(first|(with_reducible exact Calls.quiet_of_same (D1.out _))|(with_reducible exact Calls.quiet_of_same (D2.out _)))));go_wp2;go_ret;exact⟨rfl,_,rfl⟩
theorem ybE(A B:En)(n c m d:Nat)(l k:List Nat)(i:Nat)(b1 b2:Nat)(w:World)(hl:NumV w A n l)(hk:NumV w B m k)(hsl:Small l)(hsk:Small k)
  (h1:w.cell? ⟨b1,0,none⟩=some (.slice A n c)) (h2:w.cell? ⟨b2,0,none⟩=some (.slice B m d)) :
  Calls prog 211 #[.int .i64 (i:Int),.pointer (some ⟨b1,0,none⟩),.pointer (some ⟨b2,0,none⟩)] w
   fun e w'=>e=.returned (.int .i64 (((l.getD i 0:Nat):Int)-((k.getD i 0:Nat):Int)))/\∃ q,w'=w.drewN q:=by
 have b1':=hsl.get i;have b2':=hsk.get i;have C1:=fun q=>za2 A n c l i (w.drewN q) hl
 have C2:=fun q=>za2 B m d k i (w.drewN q) hk
 generalize l.getD i 0=x at *;generalize k.getD i 0=y at *;clear hl hk hsl hsk;have hx:((x:Int))<10000:=oo
 have hy:((y:Int))<10000:=oo
 have D1:=hid C1;have D2:=hid C2;clear C1 C2 b1' b2';go_enter func211,ntmps211;go_wp2;go_quiet ((go_at_call 210;(first|(with_reducible exact Calls.quiet_of_same (D1.out _))|(with_reducible exact Calls.quiet_of_same (D2.out _)))));go_wp2;go_ret;exact⟨rfl,_,rfl⟩
theorem qcz(A:En)(n c:Nat)(l:List Nat)(x:Int)(i:Nat)(b1 b2:Nat)(w:World)(hl:NumV w A n l)(hsl:Small l)(hx0:0<=x)(hx1:x<10000)
  (h1:w.cell? ⟨b1,0,none⟩=some (.slice A n c)) (h2:w.cell? ⟨b2,0,none⟩=some (.int .i64 x)) :
  Calls prog 209 #[.int .i64 (i:Int),.pointer (some ⟨b1,0,none⟩),.pointer (some ⟨b2,0,none⟩)] w
   fun e w'=>e=.returned (.int .i64 (((l.getD i 0:Nat):Int)*x))/\∃ q,w'=w.drewN q:=by
 have b1':=hsl.get i;have C1:=fun q=>za2 A n c l i (w.drewN q) hl
 generalize l.getD i 0=y at *;clear hl hsl;have hw:IntKind.i64.wrap ((y:Int)*x)=(y:Int)*x:=by
  have h3:(y:Int)*x<=10000*10000:=Int.mul_le_mul oo oo oo oo;have h4:0<=(y:Int)*x:=CZ oo hx0;rw[IntKind.wrap_i64];omega
 have D1:=hid C1;clear C1 b1';go_enter func209,ntmps209;go_wp2;go_quiet ((go_at_call 210;(with_reducible exact Calls.quiet_of_same (D1.out _))));go_wp2;go_ret;exact⟨by first|rfl|rw[hw],_,rfl⟩
def va0(g:FuncId)(lb:Array Value)(f:Nat->Int)(w0:World):Prop :=
 ∀(W:World) (i:Nat),Below w0.heap.size w0 W->Calls prog g (#[.int .i64 (i:Int)]++lb) W fun e W'=>e=.returned (.int .i64 (f i))/\∃ q,W'=W.drewN q
theorem kE:(prog.info? 3).map (fun i=>(i.zero,i.size,i.bytes))=some (some (.int .i64 0),1,8):=by kernel_rfl
structure FoldInv(f:Nat->Int)(n k:Nat)(cr:Int)(l:List Nat):Prop where
 len:l.length=k
 small:Small l
 sum:kad f k=val l+cr*10000^k
 lo : -1<=cr
 hi:cr<=9999
 over:k=n+1->cr=0
 le:k<=n+1
theorem FoldInv.start(f:Nat->Int)(n:Nat):FoldInv f n 0 0 []:=⟨rfl,qJ,by simp[kad,val],oo,oo,fun _=>rfl,oo⟩
theorem FoldInv.step{f:Nat->Int}{n k:Nat}{cr:Int}{l:List Nat}(h:FoldInv f n k cr l)(d:Nat)(cr':Int)(hd:d<10000)(hk:k<n\/cr≠0)
  (hf : -9999<=f k/\f k<=99980001) (h0:∀ j,n<=j->f j=0) (hpos:0<=kad f n) (he:f k+cr=d+cr'*10000):FoldInv f n (k+1) cr' (l++[d]):=by
 have hlo:=h.lo;have hhi:=h.hi;have hs:kad f (k+1)=(val (l++[d]):Nat)+cr'*10000^(k+1):=by
  rw[qad,h.len];simp only[kad];rw[h.sum];have e1:f k*10000^k+cr*10000^k=(d+cr'*10000)*10000^k:=by rw[<- Int.add_mul,he]
  have e2:((d:Int)+cr'*10000)*10000^k=d*10000^k+cr'*10000^(k+1):=by
   rw[Int.add_mul,Int.mul_assoc,show(10000:Int)*10000^k=10000^(k+1) from by rw[Int.pow_succ,Int.mul_comm]]
  have e3:((val l+d*10000^k:Nat):Int)=(val l:Int)+d*10000^k:=by simp
  rw[e3];omega
 have hkn:k<=n:=by
  rcases hk with hk|hk
  ·omega
  ·have:=h.le;rcases AJ n k with h1|h1
   ·exact absurd (h.over oo) hk
   ·exact h1
 refine⟨by rw[AQ,h.len];rfl,h.small.append (Small.mk hd qJ),hs,oo,oo,fun e => ?_,oo⟩;have e0:f k=0:=h0 k oo;obtain rfl:k=n:=oo
 rw[e0]at he
 have hp:0<=cr:=by
  rcases Ce cr 0 with hc|hc
  ·exfalso;have hc1:cr = -1:=oo
   have h5:=h.sum;rw[hc1]at h5;have h6:=qb9 h.small;rw[h.len]at h6;have h7:((val l:Nat):Int)<((10000^k:Nat):Int):=oo
   rw[show((10000^k:Nat):Int)=(10000:Int)^k by simp]at h7;omega
  ·exact hc
 omega
theorem FoldInv.done{f:Nat->Int}{n k:Nat}{cr:Int}{l:List Nat}(h:FoldInv f n k cr l)(hk:n<=k)(hc:cr=0)(h0:∀ j,n<=j->f j=0):(val l:Int)=kad f n:=by
 have h1:=h.sum;rw[hc]at h1;have h2:∀ m,kad f (n+m)=kad f n:=by
  intro m
  induction m with
  | zero=>rfl
  | succ m ih=>rw[<- Dn];simp only[kad];rw[ih,h0 (n+m) oo];omega
 have h3:=h2 (k-n);rw[show n+(k-n)=k by omega]at h3;omega
theorem qaT(n:Nat)(g:FuncId)(lb:Array Value)(f:Nat->Int)(w:World)(eg:∀ args w,(callFunc g args).run prog w=.ok (.enter g args) w)
  (hd:va0 g lb f w) (hn:n<=1000000) (hf:∀ j,-9999<=f j/\f j<=99980001) (h0:∀ j,n<=j->f j=0) (hpos:0<=kad f n) :
  Calls prog 208 #[.int .i64 (n:Int),.int .i64 0,.func (.func g) #[] lb] w
   fun e w'=>∃ A k c l,e=.returned (.slice A k c)/\k<=c/\NumV w' A k l/\Small l/\(val l:Int)=kad f n/\k<=n+1/\Aa w w':=by
 obtain⟨i0,hi,hz0,hz1,hz2⟩:=info_parts kE;have HD:=hid hd;have HF:=hid hf;have H0:=hid h0;have HP:=hid hpos;clear hd hf h0 hpos;go_enter func208,ntmps208;go_wp2_with (at_make;refine wpList_make_own _ rfl _ _ 147 rfl w.heap.size 3 i0 (.int .i64 0) 1 underlying147 hi hz0 hz1 .i64 .i64 _ (n+1) rfl rfl oo (by rw[hz2];omega) (by unfold maxLen;omega) (Am _) ?_;intro w0 hown0 hgrow0);go_loopw[1,7,8] (fun c v i wr=>∃(k:Nat) (cr:Int) (A:En) (cp:Nat) (l:List Nat),c=.int .i64 cr/\v=.slice A k cp/\i=.int .i64 (k:Int)/\wr.ownsRow w.heap.size 3 1 (.slice A k cp) k (kq l)/\Aa w wr/\Hid (FoldInv f n k cr l) /\ -1<=cr/\cr<=9999/\k<=n+1)
  (fun c _ i _=>(n+2)-(RowKit.intOf i).toNat)
 case atStart=>exact⟨0,0,_,_,[],rfl,rfl,rfl,hown0,(Au _ _).grown hgrow0 (Am _) (by simp),FoldInv.start f n,oo,oo,oo⟩
 case round =>
  obtain⟨k,cr,A,cp,l,rfl,rfl,rfl,hown,hB,hI,hc1,hc2,hk⟩:=hrel;by_cases hend:n<=k/\cr=0
  ·obtain⟨he1,rfl⟩:=hend;go_wp2;go_ret;exact⟨A,k,cp,l,rfl,qS hown,BJ hown,hI.small,hI.done he1 rfl H0.out,hk,hB⟩
  ·have hc:=HD.out wr k hB;have hfk:=HF.out k;have hkc:k<n\/cr≠0:=oo
   have HKC:Hid (k<n\/cr≠0):=hkc;generalize hx:f k=x at hc hfk;have HX:Hid (f k=x):=hx;have hcr0:¬ k<n->(cr != 0)=true:=fun h=>by simp;omega
   clear hx hend;by_cases hs1:x+cr<0
   ·by_cases hkn:k<n
    ·have hst:=hid (hI.out.step (x+cr+10000).toNat (-1) oo HKC.out (by rw[HX.out];exact hfk) H0.out HP.out (by rw[HX.out];omega));have hkl:=hst.out.le;clear hcr0 hkc;go_wp2_with (first
      | (go_at_fn g;refine hc.mono ?_;rintro e W1⟨rfl,q,hq⟩;have hown1:W1.ownsRow w.heap.size 3 1 (.slice A k cp) k (kq l):=(by rw[hq];exact hown);have hB1:Aa w W1:=(by rw[hq];exact ze hB q);clear hq)
      | (at_builtin;refine wpList_append_own _ rfl (.tmp 37) (.tmp 39) 147 rfl w.heap.size 3 i0 (.int .i64 0) 1 8 underlying147 hi hz0 hz1 hz2 rfl dd (.slice A k cp) k (kq l) rfl (hown1.alloc _) ⟨W1.heap.size,0,none⟩ 1 1 [.int .i64 (x+cr+10000)] rfl rfl (cell_one_new _ _ _) (by simp[Value.oneCell']) (by unfold maxLen;omega) oo (by have:=hB1.size;simp;omega) ?_;intro v' w2 hown2 hgrow2 _;obtain⟨A2,c2,rfl⟩:=zh hown2))
     go_roundw
     case rel=>exact⟨k+1,-1,A2,c2,l++[(x+cr+10000).toNat],rfl,rfl,by go_num,by rw[<- km _ _ oo];exact hown2,(hB1.alloc hB1.size _).grown hgrow2 (by have:=hB1.size;simp;omega) (jv hown1),hst.out,hst.out.lo,hst.out.hi,hkl⟩
     case measure=>exact El
    ·have hcr1:=hcr0 hkn;have hst:=hid (hI.out.step (x+cr+10000).toNat (-1) oo HKC.out (by rw[HX.out];exact hfk) H0.out HP.out (by rw[HX.out];omega));have hkl:=hst.out.le;clear hcr0 hkc;go_wp2_with (first
      | (go_at_fn g;refine hc.mono ?_;rintro e W1⟨rfl,q,hq⟩;have hown1:W1.ownsRow w.heap.size 3 1 (.slice A k cp) k (kq l):=(by rw[hq];exact hown);have hB1:Aa w W1:=(by rw[hq];exact ze hB q);clear hq)
      | (at_builtin;refine wpList_append_own _ rfl (.tmp 37) (.tmp 39) 147 rfl w.heap.size 3 i0 (.int .i64 0) 1 8 underlying147 hi hz0 hz1 hz2 rfl dd (.slice A k cp) k (kq l) rfl (hown1.alloc _) ⟨W1.heap.size,0,none⟩ 1 1 [.int .i64 (x+cr+10000)] rfl rfl (cell_one_new _ _ _) (by simp[Value.oneCell']) (by unfold maxLen;omega) oo (by have:=hB1.size;simp;omega) ?_;intro v' w2 hown2 hgrow2 _;obtain⟨A2,c2,rfl⟩:=zh hown2))
     go_roundw
     case rel=>exact⟨k+1,-1,A2,c2,l++[(x+cr+10000).toNat],rfl,rfl,by go_num,by rw[<- km _ _ oo];exact hown2,(hB1.alloc hB1.size _).grown hgrow2 (by have:=hB1.size;simp;omega) (jv hown1),hst.out,hst.out.lo,hst.out.hi,hkl⟩
     case measure=>exact El
   ·by_cases hs2:10000<=x+cr
    ·by_cases hkn:k<n
     ·have hst:=hid (hI.out.step ((x+cr)%10000).toNat ((x+cr)/10000) oo HKC.out (by rw[HX.out];exact hfk) H0.out HP.out (by rw[HX.out];omega));have hkl:=hst.out.le;clear hcr0 hkc;go_wp2_with (first
       | (go_at_fn g;refine hc.mono ?_;rintro e W1⟨rfl,q,hq⟩;have hown1:W1.ownsRow w.heap.size 3 1 (.slice A k cp) k (kq l):=(by rw[hq];exact hown);have hB1:Aa w W1:=(by rw[hq];exact ze hB q);clear hq)
       | (at_builtin;refine wpList_append_own _ rfl (.tmp 37) (.tmp 39) 147 rfl w.heap.size 3 i0 (.int .i64 0) 1 8 underlying147 hi hz0 hz1 hz2 rfl dd (.slice A k cp) k (kq l) rfl (hown1.alloc _) ⟨W1.heap.size,0,none⟩ 1 1 [.int .i64 ((x+cr)%10000)] rfl rfl (cell_one_new _ _ _) (by simp[Value.oneCell']) (by unfold maxLen;omega) oo (by have:=hB1.size;simp;omega) ?_;intro v' w2 hown2 hgrow2 _;obtain⟨A2,c2,rfl⟩:=zh hown2))
      go_roundw
      case rel=>exact⟨k+1,(x+cr)/10000,A2,c2,l++[((x+cr)%10000).toNat],rfl,rfl,by go_num,by rw[<- km _ _ oo];exact hown2,(hB1.alloc hB1.size _).grown hgrow2 (by have:=hB1.size;simp;omega) (jv hown1),hst.out,hst.out.lo,hst.out.hi,hkl⟩
      case measure=>exact El
     ·have hcr1:=hcr0 hkn;have hst:=hid (hI.out.step ((x+cr)%10000).toNat ((x+cr)/10000) oo HKC.out (by rw[HX.out];exact hfk) H0.out HP.out (by rw[HX.out];omega));have hkl:=hst.out.le;clear hcr0 hkc;go_wp2_with (first
       | (go_at_fn g;refine hc.mono ?_;rintro e W1⟨rfl,q,hq⟩;have hown1:W1.ownsRow w.heap.size 3 1 (.slice A k cp) k (kq l):=(by rw[hq];exact hown);have hB1:Aa w W1:=(by rw[hq];exact ze hB q);clear hq)
       | (at_builtin;refine wpList_append_own _ rfl (.tmp 37) (.tmp 39) 147 rfl w.heap.size 3 i0 (.int .i64 0) 1 8 underlying147 hi hz0 hz1 hz2 rfl dd (.slice A k cp) k (kq l) rfl (hown1.alloc _) ⟨W1.heap.size,0,none⟩ 1 1 [.int .i64 ((x+cr)%10000)] rfl rfl (cell_one_new _ _ _) (by simp[Value.oneCell']) (by unfold maxLen;omega) oo (by have:=hB1.size;simp;omega) ?_;intro v' w2 hown2 hgrow2 _;obtain⟨A2,c2,rfl⟩:=zh hown2))
      go_roundw
      case rel=>exact⟨k+1,(x+cr)/10000,A2,c2,l++[((x+cr)%10000).toNat],rfl,rfl,by go_num,by rw[<- km _ _ oo];exact hown2,(hB1.alloc hB1.size _).grown hgrow2 (by have:=hB1.size;simp;omega) (jv hown1),hst.out,hst.out.lo,hst.out.hi,hkl⟩
      case measure=>exact El
    ·by_cases hkn:k<n
     ·have hst:=hid (hI.out.step (x+cr).toNat (0) oo HKC.out (by rw[HX.out];exact hfk) H0.out HP.out (by rw[HX.out];omega));have hkl:=hst.out.le;clear hcr0 hkc;go_wp2_with (first
       | (go_at_fn g;refine hc.mono ?_;rintro e W1⟨rfl,q,hq⟩;have hown1:W1.ownsRow w.heap.size 3 1 (.slice A k cp) k (kq l):=(by rw[hq];exact hown);have hB1:Aa w W1:=(by rw[hq];exact ze hB q);clear hq)
       | (at_builtin;refine wpList_append_own _ rfl (.tmp 37) (.tmp 39) 147 rfl w.heap.size 3 i0 (.int .i64 0) 1 8 underlying147 hi hz0 hz1 hz2 rfl dd (.slice A k cp) k (kq l) rfl (hown1.alloc _) ⟨W1.heap.size,0,none⟩ 1 1 [.int .i64 (x+cr)] rfl rfl (cell_one_new _ _ _) (by simp[Value.oneCell']) (by unfold maxLen;omega) oo (by have:=hB1.size;simp;omega) ?_;intro v' w2 hown2 hgrow2 _;obtain⟨A2,c2,rfl⟩:=zh hown2))
      go_roundw
      case rel=>exact⟨k+1,0,A2,c2,l++[(x+cr).toNat],rfl,rfl,by go_num,by rw[<- km _ _ oo];exact hown2,(hB1.alloc hB1.size _).grown hgrow2 (by have:=hB1.size;simp;omega) (jv hown1),hst.out,hst.out.lo,hst.out.hi,hkl⟩
      case measure=>exact El
     ·have hcr1:=hcr0 hkn;have hst:=hid (hI.out.step (x+cr).toNat (0) oo HKC.out (by rw[HX.out];exact hfk) H0.out HP.out (by rw[HX.out];omega));have hkl:=hst.out.le;clear hcr0 hkc;go_wp2_with (first
       | (go_at_fn g;refine hc.mono ?_;rintro e W1⟨rfl,q,hq⟩;have hown1:W1.ownsRow w.heap.size 3 1 (.slice A k cp) k (kq l):=(by rw[hq];exact hown);have hB1:Aa w W1:=(by rw[hq];exact ze hB q);clear hq)
       | (at_builtin;refine wpList_append_own _ rfl (.tmp 37) (.tmp 39) 147 rfl w.heap.size 3 i0 (.int .i64 0) 1 8 underlying147 hi hz0 hz1 hz2 rfl dd (.slice A k cp) k (kq l) rfl (hown1.alloc _) ⟨W1.heap.size,0,none⟩ 1 1 [.int .i64 (x+cr)] rfl rfl (cell_one_new _ _ _) (by simp[Value.oneCell']) (by unfold maxLen;omega) oo (by have:=hB1.size;simp;omega) ?_;intro v' w2 hown2 hgrow2 _;obtain⟨A2,c2,rfl⟩:=zh hown2))
      go_roundw
      case rel=>exact⟨k+1,0,A2,c2,l++[(x+cr).toNat],rfl,rfl,by go_num,by rw[<- km _ _ oo];exact hown2,(hB1.alloc hB1.size _).grown hgrow2 (by have:=hB1.size;simp;omega) (jv hown1),hst.out,hst.out.lo,hst.out.hi,hkl⟩
      case measure=>exact El
def IsNum(w:World)(A:En)(n c x:Nat):Prop:=∃ l,NumV w A n l/\Norm l/\val l=x/\n<=c
theorem IsNum.below{w w':World}{A:En}{n c x:Nat}(h:IsNum w A n c x)(hb:Aa w w'):IsNum w' A n c x :=
 let ⟨l,h1,h2,h3,h4⟩:=h;⟨l,h1.below hb,h2,h3,h4⟩
theorem Norm.length_le{l:List Nat}(h:Norm l){K:Nat}(hv:val l<10000^K):l.length<=K:=by
 by_cases hn:l=[]
 ·subst hn;simp
 ·have h1:=h.val_ge hn;rcases AJ K l.length with hlt|hge
  ·have:10000^K<=10000^(l.length-1):=Bm dd oo;omega
  ·exact hge
theorem IsNum.le{w:World}{A:En}{n c x:Nat}(h:IsNum w A n c x){K:Nat}(hx:x<10000^K):n<=K:=by
 obtain⟨l,h1,h2,h3,_⟩:=h;rw[h1.len];exact h2.length_le (by rw[h3];exact hx)
theorem IsNum.zero{w:World}{A:En}{n c x:Nat}(h:IsNum w A n c x):n=0↔x=0:=by
 obtain⟨l,h1,h2,h3,_⟩:=h;rw[h1.len,<- h3,h2.val_zero];exact Bc
def Mod(x:Nat):Prop:=∃ K,K<=1000/\x<10000^K
theorem vp{x K:Nat}(h:x<10000^K)(hK:K<=1000):Mod x:=⟨K,hK,h⟩
theorem IsNum.le1{w:World}{A:En}{n c x:Nat}(h:IsNum w A n c x)(hx:Mod x):n<=1000:=let ⟨_,hK,hlt⟩:=hx;Bb (h.le hlt) hK
def vai(x:Nat)(w:World)(e:Ending)(w':World):Prop:=∃ A n c,e=.returned (.slice A n c)/\IsNum w' A n c x/\Aa w w'
theorem qo(w:World)(o o':Obj):Aa w ((w.alloc o).alloc o'):=((Au _ _).alloc (Am _) o).alloc (by simp) o'
theorem vbq(w:World)(v:Value)(t:TypeId):(w.alloc (.cells #[v] t)).cell? ⟨w.heap.size,0,none⟩=some v:=by
 rw[World.cell?_alloc_at _ _ _ _ (by simp)];rfl
theorem jaB{w:World}{a:Addr}{v:Value}(o:Obj)(h:w.cell? a=some v):(w.alloc o).cell? a=some v:=by
 have hb:=World.block_lt_of_cell? _ _ h;rw[World.cell?_alloc_lt _ _ _ hb];exact h
theorem zcz(w:World)(v u:Value)(t s:TypeId):((w.alloc (.cells #[v] t)).alloc (.cells #[u] s)).cell? ⟨w.heap.size,0,none⟩=some v/\((w.alloc (.cells #[v] t)).alloc (.cells #[u] s)).cell? ⟨w.heap.size+1,0,none⟩=some u:=by
 refine⟨jaB _ (vbq _ _ _),?_⟩;have:=vbq (w.alloc (.cells #[v] t)) u s
 rwa[World.size_alloc]at this
theorem later{B:Nat}{w W:World}(hb:Below B w W){b:Nat}{v:Value}(h:w.cell? ⟨b,0,none⟩=some v)(hlt:b<B):W.cell? ⟨b,0,none⟩=some v:=(hb.cell (p:=⟨b,0,none⟩) hlt).trans h
theorem jP(A B:En)(n c m d x y:Nat)(w:World)(hx:IsNum w A n c x)(hy:IsNum w B m d y)(hx1:Mod x)(hy1:Mod y) :
  Calls prog 185 #[.slice A n c,.slice B m d] w (vai (x+y) w):=by
 have hn:=hx.le1 hx1;have hm:=hy.le1 hy1;clear hx1 hy1;obtain⟨l,hl,nl,vl,_⟩:=hx;obtain⟨k,hk,nk,vk,_⟩:=hy;obtain⟨w1,hw1⟩:∃ w1,w1=(w.alloc (.cells #[.slice A n c] 147)).alloc (.cells #[.slice B m d] 147):=⟨_,rfl⟩
 have hsz:w1.heap.size=w.heap.size+1+1:=by rw[hw1];simp
 have hb1:Aa w w1:=by rw[hw1];exact qo _ _ _
 have hc:=zcz w (.slice A n c) (.slice B m d) 147 147;rw[<- hw1]at hc;have hd:va0 213 #[.pointer (some ⟨w.heap.size,0,none⟩),.pointer (some ⟨w.heap.size+1,0,none⟩)] (fun i=>((l.getD i 0:Nat):Int)+((k.getD i 0:Nat):Int)) w1:=fun W i hb =>
  jb2 A B n c m d l k i _ _ W ((hl.below hb1).below hb) ((hk.below hb1).below hb) nl.1 nk.1 (later hb hc.1 oo) (later hb hc.2 oo)
 have hsum:∀ N,l.length<=N->k.length<=N->kad (fun i=>((l.getD i 0:Nat):Int)+((k.getD i 0:Nat):Int)) N=((x+y:Nat):Int):=fun N h1 h2=>by
  rw[vcq,van l N h1,van k N h2,vl,vk];simp
 have hz:∀ N,l.length<=N->k.length<=N->∀ j,N<=j->((l.getD j 0:Nat):Int)+((k.getD j 0:Nat):Int)=0:=fun N h1 h2 j hj=>by
  rw[Ap,Ap,AZ oo,AZ oo];rfl
 have hbd:∀ j,-9999<=((l.getD j 0:Nat):Int)+((k.getD j 0:Nat):Int)/\((l.getD j 0:Nat):Int)+((k.getD j 0:Nat):Int)<=99980001:=fun j=>by
  have:=nl.1.get j;have:=nk.1.get j;omega
 have hln:=hl.len;have hkn:=hk.len;have eg:∀ args w,(callFunc 213 args).run prog w=.ok (.enter 213 args) w:=enters_of func213 kr9 rfl;have F:=fun N (h1:n<=N) (h2:m<=N) (_h3:N<=1000)=>(qaT N 213 _ _ w1 eg hd oo hbd (hz N oo oo) (by rw[hsum N oo oo];omega)).mono (R':=fun e w'=>∃ A k c l,e=.returned (.slice A k c)/\k<=c/\NumV w' A k l/\Small l/\(val l:Int)=((x+y:Nat):Int)/\k<=N+1/\Below w1.heap.size w1 w') (fun e w' ⟨A,k,c,l,g1,g2,g3,g4,g5,g6,g7⟩=>⟨A,k,c,l,g1,g2,g3,g4,by rw[g5,hsum N oo oo],g6,g7⟩)
 have HF:=hid F;clear F hd hsum hz hbd hl hk nl nk vl vk;have hmf:∀(fn:Fn) (first cap:Array Value) (w:World),(Instr.makeFunc fn first cap).run prog w=.ok (.func fn first cap) w:=fun _ _ _ _=>rfl
 have HLN:=hid hln;have HKN:=hid hkn;have HW:=hid hw1;clear hln hkn hw1 hsz eg;rcases AJ n m with hnm|hnm
 ·go_enter func185,ntmps185;go_wp2_with fail;have HF2:=HF.out m (Ch hnm) (Am _) hm;rw[HW.out]at HF2;refine HF2.mono ?_;rintro e w2⟨A',k',c',r,rfl,hkc,hr,sr,vr,hkn,hb2⟩;go_wp2_with fail;refine(jD A' k' c' r w2 hr oo hkc sr).mono ?_;rintro e w3⟨⟨k'',rfl,hk'',hr'',nr'',vr''⟩,rfl⟩;go_wp2;go_ret;exact⟨A',k'',c',rfl,⟨_,hr'',nr'',by rw[vr''];omega,oo⟩,(qo _ _ _).trans (hb2.mono (by simp;omega))⟩
 ·go_enter func185,ntmps185;go_wp2_with fail;have HF2:=HF.out n (Am _) hnm hn;rw[HW.out]at HF2;refine HF2.mono ?_;rintro e w2⟨A',k',c',r,rfl,hkc,hr,sr,vr,hkn,hb2⟩;go_wp2_with fail;refine(jD A' k' c' r w2 hr oo hkc sr).mono ?_;rintro e w3⟨⟨k'',rfl,hk'',hr'',nr'',vr''⟩,rfl⟩;go_wp2;go_ret;exact⟨A',k'',c',rfl,⟨_,hr'',nr'',by rw[vr''];omega,oo⟩,(qo _ _ _).trans (hb2.mono (by simp;omega))⟩
theorem vI(A B:En)(n c m d x y:Nat)(w:World)(hx:IsNum w A n c x)(hy:IsNum w B m d y)(hx1:Mod x)(hy1:Mod y)(hyx:y<=x) :
  Calls prog 180 #[.slice A n c,.slice B m d] w (vai (x-y) w):=by
 have hn:=hx.le1 hx1;have hm:=hy.le1 hy1;clear hx1 hy1;obtain⟨l,hl,nl,vl,_⟩:=hx;obtain⟨k,hk,nk,vk,_⟩:=hy;obtain⟨w1,hw1⟩:∃ w1,w1=(w.alloc (.cells #[.slice A n c] 147)).alloc (.cells #[.slice B m d] 147):=⟨_,rfl⟩
 have hsz:w1.heap.size=w.heap.size+1+1:=by rw[hw1];simp
 have hb1:Aa w w1:=by rw[hw1];exact qo _ _ _
 have hc:=zcz w (.slice A n c) (.slice B m d) 147 147;rw[<- hw1]at hc;have hd:va0 211 #[.pointer (some ⟨w.heap.size,0,none⟩),.pointer (some ⟨w.heap.size+1,0,none⟩)] (fun i=>((l.getD i 0:Nat):Int)-((k.getD i 0:Nat):Int)) w1:=fun W i hb =>
  ybE A B n c m d l k i _ _ W ((hl.below hb1).below hb) ((hk.below hb1).below hb) nl.1 nk.1 (later hb hc.1 oo) (later hb hc.2 oo)
 have hsum:∀ N,l.length<=N->k.length<=N->kad (fun i=>((l.getD i 0:Nat):Int)-((k.getD i 0:Nat):Int)) N=((x-y:Nat):Int):=fun N h1 h2=>by
  rw[qcr,van l N h1,van k N h2,vl,vk];omega
 have hz:∀ N,l.length<=N->k.length<=N->∀ j,N<=j->((l.getD j 0:Nat):Int)-((k.getD j 0:Nat):Int)=0:=fun N h1 h2 j hj=>by
  rw[Ap,Ap,AZ oo,AZ oo];rfl
 have hbd:∀ j,-9999<=((l.getD j 0:Nat):Int)-((k.getD j 0:Nat):Int)/\((l.getD j 0:Nat):Int)-((k.getD j 0:Nat):Int)<=99980001:=fun j=>by
  have:=nl.1.get j;have:=nk.1.get j;omega
 have hln:=hl.len;have hkn:=hk.len;have eg:∀ args w,(callFunc 211 args).run prog w=.ok (.enter 211 args) w:=enters_of func211 kr9 rfl;have hlk:k.length<=l.length:=by
  rcases AJ l.length k.length with h|h
  ·have:=nl.lt_of_length nk h;omega
  ·exact h
 have F:=qaT n 211 _ _ w1 eg hd oo hbd (hz n oo oo) (by rw[hsum n oo oo];omega);rw[hsum n oo oo]at F;have HF:=hid F;clear F hd hsum hz hbd hl hk nl nk vl vk hlk;have hmf:∀(fn:Fn) (first cap:Array Value) (w:World),(Instr.makeFunc fn first cap).run prog w=.ok (.func fn first cap) w:=fun _ _ _ _=>rfl
 have HLN:=hid hln;have HKN:=hid hkn;have HW:=hid hw1;have HYX:=hid hyx;clear hln hkn hw1 hsz eg hyx;go_enter func180,ntmps180;go_wp2_with fail;have HF2:=HF.out;rw[HW.out]at HF2;refine HF2.mono ?_;rintro e w2⟨A',k',c',r,rfl,hkc,hr,sr,vr,hkn,hb2⟩;go_wp2_with fail;refine(jD A' k' c' r w2 hr oo hkc sr).mono ?_;rintro e w3⟨⟨k'',rfl,hk'',hr'',nr'',vr''⟩,rfl⟩;go_wp2;go_ret;exact⟨A',k'',c',rfl,⟨_,hr'',nr'',by rw[vr''];omega,oo⟩,(qo _ _ _).trans (hb2.mono (by simp;omega))⟩
theorem ka2(A:En)(n c x:Nat)(y:Nat)(w:World)(hx:IsNum w A n c x)(hx1:Mod x)(hy:y<10000) :
  Calls prog 177 #[.slice A n c,.int .i64 (y:Int)] w (vai (x*y) w):=by
 have hn:=hx.le1 hx1;clear hx1;obtain⟨l,hl,nl,vl,_⟩:=hx;obtain⟨w1,hw1⟩:∃ w1,w1=(w.alloc (.cells #[.slice A n c] 147)).alloc (.cells #[.int .i64 (y:Int)] 3):=⟨_,rfl⟩
 have hsz:w1.heap.size=w.heap.size+1+1:=by rw[hw1];simp
 have hb1:Aa w w1:=by rw[hw1];exact qo _ _ _
 have hc:=zcz w (.slice A n c) (.int .i64 (y:Int)) 147 3;rw[<- hw1]at hc;have hd:va0 209 #[.pointer (some ⟨w.heap.size,0,none⟩),.pointer (some ⟨w.heap.size+1,0,none⟩)] (fun i=>((l.getD i 0:Nat):Int)*(y:Int)) w1:=fun W i hb =>
  qcz A n c l y i _ _ W ((hl.below hb1).below hb) nl.1 oo oo (later hb hc.1 oo) (later hb hc.2 oo)
 have hln:=hl.len;have hsum:kad (fun i=>((l.getD i 0:Nat):Int)*(y:Int)) n=((x*y:Nat):Int):=by
  rw[zcr,van l n oo,vl];simp
 have hz:∀ j,n<=j->((l.getD j 0:Nat):Int)*(y:Int)=0:=fun j hj=>by
  rw[Ap,AZ oo];simp
 have hbd:∀ j,-9999<=((l.getD j 0:Nat):Int)*(y:Int)/\((l.getD j 0:Nat):Int)*(y:Int)<=99980001:=fun j=>by
  have h1:=nl.1.get j;have h3:((l.getD j 0:Nat):Int)*(y:Int)<=9999*9999:=Int.mul_le_mul oo oo oo oo;have h4:0<=((l.getD j 0:Nat):Int)*(y:Int):=CZ oo oo;omega
 have eg:∀ args w,(callFunc 209 args).run prog w=.ok (.enter 209 args) w:=enters_of func209 kr9 rfl;have F:=qaT n 209 _ _ w1 eg hd oo hbd hz (by rw[hsum];omega);rw[hsum]at F;have HF:=hid F;clear F hd hsum hz hbd hl nl vl;have hmf:∀(fn:Fn) (first cap:Array Value) (w:World),(Instr.makeFunc fn first cap).run prog w=.ok (.func fn first cap) w:=fun _ _ _ _=>rfl
 have HLN:=hid hln;have HW:=hid hw1;clear hln hw1 hsz eg;go_enter func177,ntmps177;go_wp2_with fail;have HF2:=HF.out;rw[HW.out]at HF2;refine HF2.mono ?_;rintro e w2⟨A',k',c',r,rfl,hkc,hr,sr,vr,hkn,hb2⟩;go_wp2_with fail;refine(jD A' k' c' r w2 hr oo hkc sr).mono ?_;rintro e w3⟨⟨k'',rfl,hk'',hr'',nr'',vr''⟩,rfl⟩;go_wp2;go_ret;exact⟨A',k'',c',rfl,⟨_,hr'',nr'',by rw[vr''];omega,oo⟩,(qo _ _ _).trans (hb2.mono (by simp;omega))⟩
end Go.Proofs.YtdiecekagiledaaGreatDoor
namespace Go.Proofs.YtdiecekagiledaaGreatDoor
open Go Go.RowKit Go.Lib Go.Shelf Go.Proofs.Tryz
attribute [local go_sem] Oper.semAt_some
def yai{α:Type}(f:Nat->α)(k:Nat):List α:=(List.range k).map f
theorem zT{α:Type}(f:Nat->α)(k:Nat):yai f (k+1)=yai f k++[f k]:=by simp[yai,List.range_succ]
theorem qbo{α:Type}(f:Nat->α)(k:Nat):(yai f k).length=k:=by simp[yai]
abbrev vJ(m:Nat):={ i:Nat // i<m\/m=0 }
def bk(m k:Nat):vJ m:=⟨m-1-k,oo⟩
structure KpB(n₀ Bs:Nat)(W W':World):Prop where
 below:Below n₀ W W'
 box:W'.heap[Bs]? = W.heap[Bs]?
theorem KpB.refl(n₀ Bs:Nat)(W:World):KpB n₀ Bs W W:=⟨Au _ _,rfl⟩
theorem KpB.trans{n₀ Bs:Nat}{A B C:World}(h:KpB n₀ Bs A B)(k:KpB n₀ Bs B C):KpB n₀ Bs A C:=⟨h.below.trans k.below,k.box.trans h.box⟩
theorem KpB.cell{n₀ Bs:Nat}{A B:World}(h:KpB n₀ Bs A B){v:Value}(hv:A.cell? ⟨Bs,0,none⟩=some v):B.cell? ⟨Bs,0,none⟩=some v :=
 (World.cell?_of_block (a:=⟨Bs,0,none⟩) h.box).trans hv
theorem KpB.book{n₀ Bs:Nat}{w:World}(hn:n₀<=w.heap.size)(hB:Bs<w.heap.size)(W:World)(l:Nat)(o o':Obj)(hl:w.heap.size<=l)(h:W.heap[l]? = some o)(h1:o.isCells=false)(h2:o.isWalk=false):KpB n₀ Bs W (W.putObj l o') :=
 ⟨belowK_b hn W l o o' hl h h1 h2,World.putObj_heap_other oo⟩
theorem KpB.of_below{n₀ Bs B:Nat}{W W':World}(h:Below B W W')(h1:n₀<=B)(h2:Bs<B):KpB n₀ Bs W W':=⟨h.mono h1,h.block Bs h2⟩
abbrev Dd:=@KpB.of_below
theorem KpB.set{n₀ Bs:Nat}{W:World}{p:Addr}(h1:n₀<=p.block)(h2:Bs≠p.block)(v:Value):KpB n₀ Bs W (W.setCell p v) :=
 ⟨(Au _ _).setCell h1 v,Below.heap_setCell W p v Bs h2⟩
theorem vcd(n:Nat)(hn:1<=n)(q Bs n₀:Nat)(A:En)(m cap:Nat)(l:List Nat)(hm:m<=1000000)(hl:m=l.length)(J Jx:List (vJ m)->World->Prop)
  (hY:∀ pre x W,J pre W->pre.length<m->YieldAt Fence.wide (n-1) prog q #[Value.int .i64 (x.1:Int),Value.int .i64 (gd l x.1:Nat)] W fun e W' =>
   (e=.returned (.bool true)/\J (pre++[x]) W'/\KpB n₀ Bs W W')\/(e=.returned (.bool false)/\Jx (pre++[x]) W'))
  (W:World) (hBs:W.cell? ⟨Bs,0,none⟩=some (.slice A m cap)) (hc:Reads W n₀ 1 A m (kq l)) (h0:J [] W) :
  CallsIn Fence.wide n prog 207 #[.func (.yield q) #[] #[],.pointer (some ⟨Bs,0,none⟩)] W fun e W'=>(∃ v,e=.returned v) /\
   ((∃ ys,ys=yai (bk m) m/\J ys W')\/(∃ pre,(∃ k,k<=m/\pre=yai (bk m) k)/\Jx pre W')):=by
 refine callsIn_of_wp func207 rfl trivial ?_ rfl;simp only[ntmps207,CS,AE,Bh,Nat.reduceAdd,Nat.reduceSub,Cw,Cx,CT,CA,Co,BM];have HC:=hid hc;have HL:=hid hl;clear hc hl
 gi_wp2
 gi_loopw [3] (fun i wr=>∃ k:Nat,k<=m/\i=.int .i64 ((m:Int)-1-k)/\J (yai (bk m) k) wr/\KpB n₀ Bs W wr)
  (fun i _=>(RowKit.intOf i+1).toNat)
 case atStart=>exact⟨0,Bt _,by go_num,h0,KpB.refl _ _ _⟩
 case round =>
  obtain⟨k,hk,rfl,hJs,hnx⟩:=hrel;have hBr:wr.cell? ⟨Bs,0,none⟩=some (.slice A m cap):=hnx.cell hBs;by_cases hlt:k<m
  ·obtain⟨ad,u,hA,hadb,hu,hcu⟩:=(Reads.below HC.out hnx.below).at_ (k:=m-1-k) oo;rw[vH l _ (by have:=HL.out;omega)]at hu;injection hu with hu;subst hu;subst hA;have hx:(bk m k).1=m-1-k:=rfl;obtain⟨fn,tmps,assign,jA,hy,hR⟩:=hY _ (bk m k) wr hJs (by rw[qbo];exact hlt);rw[hx]at hy;have HX:=hid hx;generalize hi:m-1-k=i at *;have hi2:(m:Int)-1-k=(i:Int):=oo
   rw[hi2];have HI:=hid hi;have HI2:=hid hi2;have hi3:i<m:=oo
   change wr.cell? _=some (.int .i64 (gd l i:Nat)) at hcu;generalize gd l i=v at *;clear hi hi2 hx
   gi_wp2
   refine hR.mono ?_;rintro e W3 (⟨rfl,hJ3,hk3⟩|⟨rfl,hJx3⟩)
   ·gi_wp2
    go_roundw
    case rel=>exact⟨k+1,oo,by have:=HI2.out;go_num,by rw[zT];exact hJ3,hnx.trans hk3⟩
    case measure=>simp[RowKit.intOf];try omega
   ·gi_wp2
    refine bodyPost_ret (results_none rfl _ _ _) rfl ?_;exact⟨⟨_,rfl⟩,.inr ⟨_,⟨k+1,oo,(zT _ _).symm⟩,hJx3⟩⟩
  ·obtain rfl:k=m:=oo
   gi_wp2
   go_end0;exact⟨⟨_,rfl⟩,.inl ⟨_,rfl,hJs⟩⟩
theorem vaQ(n:Nat)(A:En)(m cap:Nat)(w:World) :
  CallsIn Fence.wide n prog 175 #[.slice A m cap] w fun e w'=>e=.returned (.func (.func 207) #[] #[.pointer (some ⟨w.heap.size,0,none⟩)])/\w'=w.alloc (.cells #[.slice A m cap] 147):=by
 have hmf:∀(fn:Fn) (first cap:Array Value) (w:World),(Instr.makeFunc fn first cap).run prog w=.ok (.func fn first cap) w:=fun _ _ _ _=>rfl
 refine callsIn_of_wp func175 rfl trivial ?_ rfl;simp only[ntmps175,CS,AE,Bh,Nat.reduceAdd,Nat.reduceSub,Cw,Cx,CT,CA,Co,BM]
 gi_wp2
 go_ret;exact⟨rfl,rfl⟩
theorem yab(n:Nat)(hn:1<=n)(Bs n₀:Nat)(A:En)(m cap:Nat)(l:List Nat)(hm:m<=1000000)(w:World)(hBs:Bs<w.heap.size)(hn₀:n₀<=w.heap.size)
  (hc:w.cell? ⟨Bs,0,none⟩=some (.slice A m cap)) (hI:Reads w n₀ 1 A m (kq l)) :
  SeqStopsK Fence.wide n prog 207 #[.pointer (some ⟨Bs,0,none⟩)] (fun x:vJ m=>#[Value.int .i64 (x.1:Int),Value.int .i64 (gd l x.1:Nat)]) (KpB n₀ Bs) (fun ys=>ys=yai (bk m) m)
   (fun pre=>∃ k,k<=m/\pre=yai (bk m) k) m w:=fun q J Jx W hW _ _ hY h0=>by
 have hl:m=l.length:=by have:=hI.1;rw[zU]at this;omega
 exact vcd n hn q Bs n₀ A m cap l hm hl J Jx hY W ((hW.cell (p:=⟨Bs,0,none⟩) hBs).trans hc) (Reads.keep hI fun p hp=>hW.cell oo) h0
def kp(a b:Int):Int:=if a<b then -1 else if b<a then 1 else 0
theorem yaD(a:Int)(w:World):Calls prog 155 #[.int .i64 a] w fun e w'=>e=.returned (.bool false)/\w=w':=by
 have h:(a != a)=false:=by simp
 go_enter func155,ntmps155;go_wp2;go_ret;exact⟨rfl,rfl⟩
theorem kbR(a b:Int)(w:World):Calls prog 109 #[.int .i64 a,.int .i64 b] w fun e w'=>e=.returned (.int .i64 (kp a b))/\w'=w:=by
 rcases DT a b with h|h|h
 ·have e:kp a b = -1:=by unfold kp;rw[if_pos h]
  rw[e];go_enter func109,ntmps109;go_wp2_with (go_at_call 155;refine(yaD _ _).mono ?_;rintro e w'⟨rfl,rfl⟩);go_ret;exact⟨rfl,rfl⟩
 ·subst h;have e:kp a a=0:=by unfold kp;simp
  have h:¬ a<a:=oo
  rw[e];go_enter func109,ntmps109;go_wp2_with (go_at_call 155;refine(yaD _ _).mono ?_;rintro e w'⟨rfl,rfl⟩);go_ret;exact⟨rfl,rfl⟩
 ·have e:kp a b=1:=by unfold kp;rw[if_neg oo,if_pos h]
  have h2:¬ a<b:=oo
  rw[e];go_enter func109,ntmps109;go_wp2_with (go_at_call 155;refine(yaD _ _).mono ?_;rintro e w'⟨rfl,rfl⟩);go_ret;exact⟨rfl,rfl⟩
theorem jaR{l k:List Nat}(nl:Norm l)(nk:Norm k)(h:l.length≠k.length):kp l.length k.length=kp (val l) (val k):=by
 unfold kp;rcases AJ l.length k.length with h1|h1
 ·have:=nl.lt_of_length nk h1;rw[if_pos oo,if_pos oo]
 ·have:=nk.lt_of_length nl oo;rw[if_neg oo,if_pos oo,if_neg oo,if_pos oo]
theorem ybA{l k:List Nat}(sl:Small l)(sk:Small k)(h:l.length=k.length)(i:Nat)(hi:i<l.length)(hne:l.getD i 0≠k.getD i 0)
  (heq:∀ j,i<j->j<l.length->l.getD j 0=k.getD j 0):kp (l.getD i 0:Nat) (k.getD i 0:Nat)=kp (val l) (val k):=by
 unfold kp;rcases AJ (l.getD i 0) (k.getD i 0)with h1|h1
 ·have:=kao sl h i hi h1 heq;rw[if_pos oo,if_pos oo]
 ·have:=kao sk h.symm i oo oo (fun j a b=>(heq j a oo).symm);rw[if_neg oo,if_pos oo,if_neg oo,if_pos oo]
theorem ybR{l k:List Nat}(sl:Small l)(sk:Small k)(h:l.length=k.length)(i:Nat)(hi:i<l.length)(hne:gd l i≠gd k i)
  (heq:∀ j,i<j->j<l.length->gd l j=gd k j):kp (gd l i:Nat) (gd k i:Nat)=kp (val l) (val k):=ybA sl sk h i hi hne heq
theorem ja3(A B:En)(n c d:Nat)(l k:List Nat)(w:World)(hl:NumV w A n l)(hk:NumV w B n k)(nl:Norm l)(nk:Norm k)(hn:n<=1000) :
  Calls prog 138 #[.slice A n c,.slice B n d] w
   fun e w'=>e=.returned (.int .i64 (kp (val l) (val k)))/\Aa w w':=by
 refine(callsIn_wide (n:=3)).1 ?_;refine callsIn_of_wp_marks func138 rfl trivial ?_ rfl;simp only[ntmps138,CS,AE,Bh,Nat.reduceAdd,Nat.reduceSub,Cw,Cx,CT,CA,Co,BM];have bM:=Boxed.new w 147 (.slice B n d);have bR:=Boxed.new (w.alloc (.cells #[.slice B n d] 147)) 3 (.int .i64 0);rw[World.size_alloc]at bR;have bM2:=bM.alloc (.cells #[.int .i64 0] 3);have bS:=Boxed.new ((w.alloc (.cells #[.slice B n d] 147)).alloc (.cells #[.int .i64 0] 3)) 147 (.slice A n c);simp only[World.size_alloc]at bS;have hB0:Aa w (((w.alloc (.cells #[.slice B n d] 147)).alloc (.cells #[.int .i64 0] 3)).alloc (.cells #[.slice A n c] 147)) :=
  (((Au _ w).alloc (Am _) _).alloc (by simp) _).alloc (by simp;omega) _
 have hln:=hid hl.len;have hkn:=hid hk.len
 gi_wp2_with (refine⟨trivial,?_⟩;gi_at_call 175;refine(vaQ _ _ _ _ _).mono ?_;rintro e w'⟨rfl,rfl⟩)
 refine wpIn_rangeFunc_ownG rfl oo (gf:=207) (lb:=#[.pointer (some ⟨w.heap.size+1+1,0,none⟩)]) rfl trivial (enters_of func207 kr9 rfl)
  (yab 2 oo (w.heap.size+1+1) w.heap.size A n c l oo _ (by simp) (by simp;omega) bS.cell (Reads.keep hl fun p hp=>hB0.cell hp)) KpB.trans (KpB.book (by simp;omega) (by simp)) (Au _ _) (fun _=>rfl)
  (fun pre W=>((∀ p∈pre,gd l p.1=gd k p.1)/\W.cell? ⟨w.heap.size+1,0,none⟩=some (.int .i64 0)/\W.frozen? ⟨w.heap.size+1,0,none⟩=false/\W.cell? ⟨w.heap.size,0,none⟩=some (.slice B n d))/\Aa w W)
  (fun cd pre W=>(cd=.ret/\∃ ini last,pre=ini++[last]/\(∀ p∈ini,gd l p.1=gd k p.1)/\gd l last.1≠gd k last.1/\W.cell? ⟨w.heap.size+1,0,none⟩=some (.int .i64 (kp (gd l last.1:Nat) (gd k last.1:Nat))))/\Aa w W)
  (OwnFrom.and (Own.from (fun s A B row hs hg hr=>⟨hs.1,cell_kept hs.2.1 hg hr,(frozen_kept hs.2.1 hg hr).trans hs.2.2.1,cell_kept hs.2.2.2 hg hr⟩) _) (ownFrom_below (Am _) (by simp;omega)))
  (fun cd=>OwnFrom.and (Own.from (fun s A B row hs hg hr=>by obtain⟨hc,ini,last,e1,e2,e3,e4⟩:=hs;exact⟨hc,ini,last,e1,e2,e3,cell_kept e4 hg hr⟩) _) (ownFrom_below (Am _) (by simp;omega)))
  ⟨⟨by simp,(bR.alloc _).cell,(bR.alloc _).frozen,(bM2.alloc _).cell⟩,hB0⟩
  ?a1 ?assign ?jA ?done ?stop
 case assign =>
  intro l x W K hK
  gi_wp2
  exact hK
 case jA =>
  rintro q pre x W⟨⟨hp,hcr,hfr,hcm⟩,hB⟩ hlt;have hx:x.1<n:=by have:=x.2;omega
  obtain⟨ad,u,hA,hadb,hu,hcu⟩:=(Reads.below hk hB).at_ hx;rw[vH k _ (by have:=hkn.out;omega)]at hu;injection hu with hu;subst hu;subst hA;change W.cell? _=some (.int .i64 (gd k x.1:Nat)) at hcu;have HP:=hid hp;clear hp;by_cases he:gd l x.1=gd k x.1
  ·rw[<- he]at hcu;have HE:=hid he;clear he;generalize hg:gd l x.1=a at hcu HE ⊢;have HG:=hid hg;clear hg;have hne:((a:Int) != (a:Int))=false:=by simp
   gi_wp2
   exact⟨KeepsFrom.refl _ _,KpB.refl _ _ _,⟨fun p hp'=>(Cm.1 hp').elim (HP.out p) (fun e=>by obtain rfl:=DL.1 e;rw[HG.out];exact HE.out),hcr,hfr,hcm⟩,hB⟩
  ·have HE:=hid he;generalize hg:gd l x.1=a at hcu he ⊢;generalize hg2:gd k x.1=b at hcu he ⊢;have hne:((a:Int) != (b:Int))=true:=by rw[bne_iff_ne];omega
   have HG:=hid hg;have HG2:=hid hg2;clear hg hg2 he
   gi_wp2_with (refine⟨trivial,?_⟩;gi_at_call 109;refine(CallsIn.inRound q (callsIn_wide.2 (kbR _ _ _))).mono ?_;rintro e w'⟨rfl,rfl⟩)
   exact⟨(KeepsOthers.setCell _ _ _).from _,⟨rfl,pre,x,rfl,HP.out,HE.out,by rw[HG.out,HG2.out];exact World.cell?_setCell_same' _ _ _ (by rw[hcr];rfl)⟩,hB.setCell (p:=⟨w.heap.size+1,0,none⟩) (by simp) _⟩
 case done =>
  rintro D ys W hD rfl⟨⟨hne,hcr,hfr,hcm⟩,hB⟩ hK
  gi_wp2
  have hK':=(KeepsOthers.setCell W ⟨w.heap.size+1,0,none⟩ (.int .i64 0)).same D _ hK rfl;refine⟨by simp,.inl ⟨_,_,rfl,run_takeDeferred hK',?_⟩⟩;have hc5:=cell_kept (World.cell?_setCell_same' W ⟨w.heap.size+1,0,none⟩ (.int .i64 0) (by rw[hcr];rfl)) (grownBy_putObj' _ D (.deferred none)) (fun r e=>by cases e;exact⟨_,hK',rfl⟩);have hval:l=k:=yaC (by rw[<- hln.out,<- hkn.out]) (fun j hj=>by
   have:=hne (bk n (n-1-j)) (by simp only[yai,BR,BB];exact⟨n-1-j,by have:=hln.out;omega,rfl⟩);have e:(bk n (n-1-j)).1=j:=by unfold bk;have:=hln.out;simp;omega
   rwa[e]at this)
  refine⟨.int .i64 0,?_,by rw[hval];unfold kp;simp,(hB.setCell (p:=⟨w.heap.size+1,0,none⟩) (by simp) _).trans (belowK_b (w:=w) (Am _) _ D _ _ (by simp at hD;omega) hK' rfl rfl)⟩;simp[results,f138,go_sem,hc5]
 case stop =>
  rintro D cd pre W hD⟨j,hj,rfl⟩ ⟨⟨rfl,ini,last,e1,e2,e3,hcr⟩,hB⟩ hK
  gi_wp2
  refine⟨by simp,.inl ⟨_,_,rfl,run_takeDeferred hK,?_⟩⟩;have hc5:=cell_kept hcr (grownBy_putObj' _ D (.deferred none)) (fun r e=>by cases e;exact⟨_,hK,rfl⟩);obtain⟨j',rfl⟩:∃ j',j=j'+1:=by
   cases j with
   | zero=>simp[yai]at e1
   | succ j'=>exact⟨j',rfl⟩
  rw[zT]at e1;obtain⟨rfl,e5⟩:=List.append_inj' e1 rfl;obtain rfl:bk n j'=last:=by simpa using e5
  have hli:=hln.out;have hki:=hkn.out;have e6:(bk n j').1=n-1-j':=rfl;rw[e6]at e3 hc5;refine⟨.int .i64 (kp (gd l (n-1-j'):Nat) (gd k (n-1-j'):Nat)),?_,?_,hB.trans (belowK_b (w:=w) (Am _) W D _ _ (by simp at hD;omega) hK rfl rfl)⟩
  ·simp[results,f138,go_sem,hc5]
  ·rw[ybR nl.1 nk.1 oo (n-1-j') oo e3 (fun t h1 h2=>by
    have:=e2 (bk n (n-1-t)) (by simp only[yai,BR,BB];exact⟨n-1-t,oo,rfl⟩);have e:(bk n (n-1-t)).1=t:=by unfold bk;simp;omega
    rwa[e]at this)]
theorem kaR(A B:En)(n c m d:Nat)(w:World)(hne:n≠m)(_hn:n<=1000)(_hm:m<=1000) :
  Calls prog 138 #[.slice A n c,.slice B m d] w
   fun e w'=>e=.returned (.int .i64 (kp n m))/\Aa w w':=by
 have h:((n:Int) != (m:Int))=true:=by rw[bne_iff_ne];omega
 go_enter func138,ntmps138;go_wp2_with (go_at_call 109;refine(kbR _ _ _).mono ?_;rintro e w'⟨rfl,rfl⟩);refine bodyPost_ret (v:=.int .i64 (kp n m)) (by simp[results,f138,go_sem]) rfl ⟨rfl,?_⟩;exact((((Au _ _).alloc (Am _) _).alloc (by simp) _))
theorem jw(A B:En)(n c m d x y:Nat)(w:World)(hx:IsNum w A n c x)(hy:IsNum w B m d y)(hx1:Mod x)(hy1:Mod y) :
  Calls prog 138 #[.slice A n c,.slice B m d] w
   fun e w'=>e=.returned (.int .i64 (kp x y))/\Aa w w':=by
 have hn:=hx.le1 hx1;have hm:=hy.le1 hy1;obtain⟨l,hl,nl,vl,_⟩:=hx;obtain⟨k,hk,nk,vk,_⟩:=hy;by_cases h:n=m
 ·subst h;rw[<- vl,<- vk];exact ja3 A B n c d l k w hl hk nl nk hn
 ·refine(kaR A B n c m d w h hn hm).mono ?_;rintro e w'⟨rfl,hb⟩;refine⟨?_,hb⟩;have h1:=hl.len;have h2:=hk.len;have h3:=jaR nl nk oo;rw[vl,vk,<- h1,<- h2]at h3;rw[h3]
end Go.Proofs.YtdiecekagiledaaGreatDoor
