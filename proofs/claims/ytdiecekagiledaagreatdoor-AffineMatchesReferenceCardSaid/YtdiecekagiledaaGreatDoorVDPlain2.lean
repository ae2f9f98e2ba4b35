/- What the eight operations of the laws' calls hand back, as a relation; that. -/
import Derived.Test.YtdiecekagiledaaGreatDoorVQPlain6
namespace Go.Proofs.YtdiecekagiledaaGreatDoor
open Go Go.Lib
def OpRes(k:Nat)(a b:Iv)(T:Int)(o:Option Iv):Prop :=
 match k with
 | 0=>o=some (zct a b)
 | 1=>o=some (zcv a b)
 | 2=>o=some (zcK a b)
 | 3=>(b.Free/\o=some (kcJ a b))\/(¬ b.Free/\o=none)
 | 4=>o=some (qbi a b)
 | 5=>((kaU a b).Ok/\o=some (kaU a b))\/(¬ (kaU a b).Ok/\o=none)
 | 6=>(0<=a.lo/\∃ s,SqrtI a T s/\o=some s)\/(a.lo<0/\o=none)
 | _=>o=some (ya9 a T)
theorem OpRes.ok{k:Nat}{a b s:Iv}{T:Int}(hT:0<T)(ha:a.Ok)(hb:b.Ok)(h:OpRes k a b T (some s)):s.Ok:=by
 unfold OpRes at h;split at h
 ·cases h;exact ycx ha hb
 ·cases h;exact kcH ha hb
 ·cases h;exact ycE ha hb
 ·rcases h with⟨h0,h⟩|⟨_,h⟩
  ·cases h;exact jcA h0 ha hb
  ·cases h
 ·cases h;exact ycj ha
 ·rcases h with⟨h0,h⟩|⟨_,h⟩
  ·cases h;exact h0
  ·cases h
 ·rcases h with⟨_,t,ht,h⟩|⟨_,h⟩
  ·cases h;exact SqrtI.ok hT ha ht
  ·cases h
 ·cases h
  have h1:=jbJ (a:=a) hT;have h2:a.lo<=a.hi:=ha;exact Cu (Cu h1.1 h2) h1.2
theorem OpRes.sub{k:Nat}{a b c d t:Iv}{T:Int}{o:Option Iv}(hT:0<T)(ha:a.Ok)(hb:b.Ok)(h1:a.Sub c)(h2:b.Sub d)
  (h:OpRes k a b T o) (h':OpRes k c d T (some t)):(∃ s,o=some s/\s.Sub t)\/(k=5/\o=none):=by
 unfold OpRes at h h';split at h<;>simp only at h'
 ·cases h';exact .inl ⟨_,h,kcb h1 h2⟩
 ·cases h';exact .inl ⟨_,h,ycq h1 h2⟩
 ·cases h';exact .inl ⟨_,h,jcm ha hb h1 h2⟩
 ·rcases h' with⟨h0,h'⟩|⟨_,h'⟩
  ·cases h'
   rcases h with⟨_,h⟩|⟨hn,_⟩
   ·exact .inl ⟨_,h,vcf h0 ha hb h1 h2⟩
   ·exact absurd (h0.sub h2) hn
  ·cases h'
 ·cases h';exact .inl ⟨_,h,zbX ha hb h1 h2⟩
 ·rcases h' with⟨h0,h'⟩|⟨_,h'⟩
  ·cases h'
   rcases h with⟨hm,h⟩|⟨_,h⟩
   ·exact .inl ⟨_,h,zb0 hm h1 h2⟩
   ·exact .inr ⟨rfl,h⟩
  ·cases h'
 ·rcases h' with⟨h0,u,hu,h'⟩|⟨_,h'⟩
  ·cases h'
   rcases h with⟨_,s,hs,h⟩|⟨hn,_⟩
   ·exact .inl ⟨_,h,SqrtI.sub hT h1 hs hu⟩
   ·exact absurd (Cu h0 h1.1) (Rat.not_le.2 hn)
  ·cases h'
 ·cases h';exact .inl ⟨_,h,vbH hT h1⟩
theorem OpRes.dig{k j p:Nat}{a b s:Iv}(hj:0<j)(hb:b.Ok)(da:IDig j a)(db:IDig j b)(h:OpRes k a b (TT p) (some s)):IDig (j+j+p+p+1) s:=by
 unfold OpRes at h;split at h
 ·cases h;exact(qcb da db).mono oo
 ·cases h;exact(jcq da db).mono oo
 ·cases h;exact(qcm da db).mono oo
 ·rcases h with⟨h0,h⟩|⟨_,h⟩
  ·cases h;exact(ycf da db h0 hb).mono oo
  ·cases h
 ·cases h;exact(vbW da db).mono oo
 ·rcases h with⟨h0,h⟩|⟨_,h⟩
  ·cases h;exact(vbZ da db).mono oo
  ·cases h
 ·rcases h with⟨_,t,ht,h⟩|⟨_,h⟩
  ·cases h;exact(SqrtI.dig da hj ht).mono oo
  ·cases h
 ·cases h;exact(ybH da).mono oo
def pk(c n:Int):Int:=if c<0 then(-(c+1))%n else c%n
theorem qC(c:Int){n:Int}(h:0<n):0<=pk c n:=by unfold pk;split<;>exact Dk _ oo
theorem jaW(c:Int){n:Int}(h:0<n):pk c n<n:=by unfold pk;split<;>exact DM _ h
structure Trm where
 s:Nat
 c:Rat
structure Frm where
 c:Rat
 t:List Trm
 r:Rat
def trD(l:List Trm)(i:Nat):Trm:=l.getD i ⟨0,0⟩
theorem yk{l:List Trm}{i:Nat}(h:i<l.length):trD l i∈l:=by
 unfold trD;rw[Ap,Ay h];exact CK h
theorem vN{l:List Trm}{i:Nat}(h:i<l.length):trD l i=l[i]:=by unfold trD;rw[Ap,Ay h];rfl
theorem vaY{l:List Trm}{i:Nat}(h:i<l.length):l.take (i+1)=l.take i++[trD l i]:=by
 rw[DU,Ay h,vN h];rfl
theorem kH{l:List Trm}{i:Nat}(h:i<l.length):l.drop i=trD l i :: l.drop (i+1):=by
 rw[vN h];exact Cq h
structure SrcOk(l:List Trm):Prop where
 src:∀ p,p∈l->1<=p.s/\p.s<=1000000
 asc:l.Pairwise fun a b=>a.s<b.s
theorem SrcOk.nil:SrcOk []:=⟨fun _ h=>absurd h (by simp),DQ⟩
abbrev DY:=@SrcOk.nil
theorem SrcOk.tail{x:Trm}{l:List Trm}(h:SrcOk (x :: l)):SrcOk l:=⟨fun p hp=>h.src p (Bx _ hp),(De.1 h.asc).2⟩
theorem SrcOk.lt{l:List Trm}(h:SrcOk l){i k:Nat}(hik:i<k)(hk:k<l.length):(trD l i).s<(trD l k).s:=by
 rw[vN (show i<l.length by omega),vN hk];exact List.pairwise_iff_getElem.1 h.asc i k oo hk hik
structure Frm.Ok(f:Frm):Prop where
 few:f.t.length<=64
 src:SrcOk f.t
 nz:∀ p,p∈f.t->p.c≠0
 rest:0<=f.r
structure FDig(k:Nat)(f:Frm):Prop where
 c:QDig k f.c
 t:∀ p,p∈f.t->QDig k p.c
 r:QDig k f.r
theorem FDig.mono{j k:Nat}{f:Frm}(h:FDig j f)(hjk:j<=k):FDig k f:=⟨h.c.mono hjk,fun p hp=>(h.t p hp).mono hjk,h.r.mono hjk⟩
def vj(x:Rat):Rat:=if x<0 then 0-x else x
theorem jax{x:Rat}(h:x<0):vj x=0-x:=by unfold vj;rw[if_pos h]
theorem kax{x:Rat}(h:0<=x):vj x=x:=by unfold vj;rw[if_neg (by grind)]
theorem vD{k:Nat}{x:Rat}(h:QDig k x):QDig k (vj x):=by
 unfold vj;split
 ·have:(0:Rat)-x = -x:=by grind
  rw[this];exact⟨by show Dig k (-x).num;rw[Rat.neg_num];unfold Dig;rw[Da];exact h.1,by show Dig k (((-x).den:Nat):Int);rw[Rat.neg_den];exact h.2⟩
 ·exact h
def yo(l:List Trm):Nat->Rat
 | 0=>0
 | k+1=>yo l k+vj (trD l k).c
def rad(f:Frm):Rat:=yo f.t f.t.length+f.r
def ky(l:List Trm)(id:Nat):Option Rat:=(l.find? fun t=>t.s==id).map (·.c)
def cf(l:List Trm)(id:Nat):Rat:=(ky l id).getD 0
theorem za6(x:Trm)(l:List Trm)(id:Nat):ky (x :: l) id=if x.s=id then some x.c else ky l id:=by
 unfold ky;rw[List.find?_cons];by_cases h:x.s=id
 ·simp[h]
 ·have:(x.s==id)=false:=by simpa using h
  rw[this,if_neg h]
theorem kal{l:List Trm}{id:Nat}:ky l id=none↔∀ p,p∈l->p.s≠id:=by
 unfold ky;simp
theorem zZ(id:Nat):cf [] id=0:=rfl
theorem yy(x:Trm)(l:List Trm)(id:Nat):cf (x :: l) id=if x.s=id then x.c else cf l id:=by
 unfold cf;rw[za6];split<;>rfl
theorem zag{l:List Trm}{id:Nat}(h:∀ p,p∈l->p.s≠id):cf l id=0:=by unfold cf;rw[kal.2 h];rfl
theorem kcD{l:List Trm}(h:SrcOk l){i:Nat}(hi:i<l.length):ky l (trD l i).s=some (trD l i).c:=by
 induction l generalizing i with
 | nil=>simp at hi
 | cons x l ih =>
  rw[za6]
  cases i with
  | zero =>
   rw[if_pos]
   ·rfl
   ·rfl
  | succ i =>
   have hx:x.s<(trD (x :: l) (i+1)).s:=h.lt (i:=0) (k:=i+1) oo hi;rw[if_neg oo];exact ih h.tail (by simpa using hi)
theorem zbb:∀ {a b:List Trm},SrcOk a->SrcOk b->(∀ p,p∈a->p.c≠0)->(∀ p,p∈b->p.c≠0)->(∀ id,cf a id=cf b id)->a=b
 | [],[],_,_,_,_,_=>rfl
 | [],y :: b,_,_,_,hb0,h=>by
  have:=h y.s;rw[zZ,yy,if_pos rfl]at this;exact absurd this.symm (hb0 y (by simp))
 | x :: a,[],_,_,ha0,_,h=>by
  have:=h x.s;rw[zZ,yy,if_pos rfl]at this;exact absurd this (ha0 x (by simp))
 | x :: a,y :: b,ha,hb,ha0,hb0,h=>by
  have hx:∀ p,p∈a->x.s<p.s:=(De.1 ha.asc).1;have hy:∀ p,p∈b->y.s<p.s:=(De.1 hb.asc).1;have e1:=h x.s;have e2:=h y.s;rw[yy,if_pos rfl,yy]at e1;rw[yy,yy,if_pos rfl]at e2;have hs:x.s=y.s:=by
   rcases Cf x.s y.s with hl|he|hg
   ·rw[if_neg oo,zag (fun p hp=>by have:=hy p hp;omega)]at e1;exact absurd e1 (ha0 x (by simp))
   ·exact he
   ·rw[if_neg oo,zag (fun p hp=>by have:=hx p hp;omega)]at e2;exact absurd e2.symm (hb0 y (by simp))
  rw[if_pos hs.symm]at e1;have hxy:x=y:=by cases x;cases y;simp only at hs e1;rw[hs,e1]
  subst hxy;rw[zbb ha.tail hb.tail (fun p hp=>ha0 p (Bx _ hp)) (fun p hp=>hb0 p (Bx _ hp)) fun id=>by
   have:=h id;rw[yy,yy]at this;by_cases hid:x.s=id
   ·rw[zag (fun p hp=>by have:=hx p hp;omega),zag (fun p hp=>by have:=hy p hp;omega)]
   ·rwa[if_neg hid,if_neg hid]at this]
def ahead(s:Nat)(c:Rat)(l:List Trm):List Trm:=if c=0 then l else⟨s,c⟩ :: l
def lin(p q:Rat):List Trm->List Trm->List Trm
 | [],[]=>[]
 | x :: a,[]=>ahead x.s (p*x.c) (lin p q a [])
 | [],y :: b=>ahead y.s (q*y.c) (lin p q [] b)
 | x :: a,y :: b =>
  if x.s<y.s then ahead x.s (p*x.c) (lin p q a (y :: b))
  else if y.s<x.s then ahead y.s (q*y.c) (lin p q (x :: a) b)
  else ahead x.s (p*x.c+q*y.c) (lin p q a b)
 termination_by a b=>a.length+b.length
theorem ya1{s:Nat}{c:Rat}{l:List Trm}{t:Trm}(h:t∈ahead s c l):t=⟨s,c⟩/\c≠0\/t∈l:=by
 unfold ahead at h;split at h
 ·exact .inr h
 ·rcases Bd.1 h with h|h
  ·exact .inl ⟨h,by assumption⟩
  ·exact .inr h
theorem vaj{s:Nat}{c:Rat}{l:List Trm}(hl:∀ t,t∈l->t.s≠s)(id:Nat):cf (ahead s c l) id=if s=id then c else cf l id:=by
 unfold ahead;split
 ·rename_i h;split
  ·rename_i e;subst e;rw[zag hl,h]
  ·rfl
 ·rw[yy]
structure LinOk(lo:Nat)(l:List Trm):Prop where
 src:∀ t,t∈l->lo<=t.s/\t.s<=1000000
 asc:l.Pairwise fun a b=>a.s<b.s
 nz:∀ t,t∈l->t.c≠0
theorem LinOk.ahead{s lo:Nat}{c:Rat}{l:List Trm}(h:LinOk (s+1) l)(hs:lo<=s)(hs2:s<=1000000):LinOk lo (ahead s c l):=by
 refine⟨fun t ht => ?_,?_,fun t ht => ?_⟩
 ·rcases ya1 ht with⟨rfl,_⟩|ht
  ·exact⟨hs,hs2⟩
  ·have:=h.src t ht;exact⟨oo,this.2⟩
 ·unfold Proofs.YtdiecekagiledaaGreatDoor.ahead;split
  ·exact h.asc
  ·exact De.2 ⟨fun t ht=>by have:=h.src t ht;show s<t.s;omega,h.asc⟩
 ·rcases ya1 ht with⟨rfl,hc⟩|ht
  ·exact hc
  ·exact h.nz t ht
theorem kB(s:Nat)(c:Rat)(l:List Trm):(ahead s c l).length<=l.length+1:=by unfold ahead;split<;>simp
theorem zD(p q:Rat):lin p q [] []=[]:=by unfold lin;rfl
theorem yK(p q:Rat)(x:Trm)(a:List Trm):lin p q (x :: a) []=ahead x.s (p*x.c) (lin p q a []):=by rw[lin]
theorem zS(p q:Rat)(y:Trm)(b:List Trm):lin p q [] (y :: b)=ahead y.s (q*y.c) (lin p q [] b):=by rw[lin]
theorem qI(p q:Rat)(x y:Trm)(a b:List Trm):lin p q (x :: a) (y :: b) =
  if x.s<y.s then ahead x.s (p*x.c) (lin p q a (y :: b))
  else if y.s<x.s then ahead y.s (q*y.c) (lin p q (x :: a) b)
  else ahead x.s (p*x.c+q*y.c) (lin p q a b):=by rw[lin]
structure LinSpec(p q:Rat)(a b:List Trm)(lo:Nat):Prop where
 ok:LinOk lo (lin p q a b)
 cf:∀ id,cf (lin p q a b) id=p*Proofs.YtdiecekagiledaaGreatDoor.cf a id+q*Proofs.YtdiecekagiledaaGreatDoor.cf b id
 len:(lin p q a b).length<=a.length+b.length
theorem jV{x:Trm}{a:List Trm}(h:SrcOk (x :: a)):∀ t,t∈a->x.s+1<=t.s:=fun t ht=>(De.1 h.asc).1 t ht
theorem jaY{x:Trm}{a:List Trm}(h:SrcOk (x :: a)):∀ t,t∈x :: a->x.s<=t.s:=fun t ht=>by
 rcases Bd.1 ht with rfl|ht
 ·exact Am _
 ·have:=jV h t ht;omega
theorem jcl(p q:Rat):∀(n:Nat) (a b:List Trm),a.length+b.length<=n->SrcOk a->SrcOk b->∀ lo,(∀ t,t∈a->lo<=t.s)->(∀ t,t∈b->lo<=t.s)->LinSpec p q a b lo:=by
 intro n
 induction n with
 | zero =>
  intro a b hn ha hb lo la lb;have e1:a=[]:=Bc.1 oo;have e2:b=[]:=Bc.1 oo;subst e1 e2;exact⟨by rw[zD];exact⟨fun _ h=>absurd h (by simp),DQ,fun _ h=>absurd h (by simp)⟩,fun id=>by rw[zD,zZ];grind,by rw[zD];simp⟩
 | succ n ih =>
  intro a b hn ha hb lo la lb
  match a,b with
  | [],[]=>exact⟨by rw[zD];exact⟨fun _ h=>absurd h (by simp),DQ,fun _ h=>absurd h (by simp)⟩,fun id=>by rw[zD,zZ];grind,by rw[zD];simp⟩
  | x :: a,[] =>
   have k:=ih a [] (by simp at hn ⊢;omega) ha.tail DY (x.s+1) (jV ha) (fun _ h=>absurd h (by simp));refine⟨by rw[yK];exact k.ok.ahead (la x (by simp)) (ha.src x (by simp)).2,fun id => ?_,?_⟩
   ·rw[yK,vaj (fun t ht=>by have:=(k.ok.src t ht).1;omega),k.cf,yy,zZ];split
    ·grind
    ·rfl
   ·rw[yK];have:=kB x.s (p*x.c) (lin p q a []);have:=k.len;simp at this ⊢;omega
  | [],y :: b =>
   have k:=ih [] b (by simp at hn ⊢;omega) DY hb.tail (y.s+1) (fun _ h=>absurd h (by simp)) (jV hb);refine⟨by rw[zS];exact k.ok.ahead (lb y (by simp)) (hb.src y (by simp)).2,fun id => ?_,?_⟩
   ·rw[zS,vaj (fun t ht=>by have:=(k.ok.src t ht).1;omega),k.cf,yy,zZ];split
    ·grind
    ·rfl
   ·rw[zS];have:=kB y.s (q*y.c) (lin p q [] b);have:=k.len;simp at this ⊢;omega
  | x :: a,y :: b =>
   rw[AE,AE]at hn;rcases Cf x.s y.s with h|h|h
   ·have k:=ih a (y :: b) (by simp;omega) ha.tail hb (x.s+1) (jV ha) (fun t ht=>by have:=jaY hb t ht;omega);have e:=qI p q x y a b;rw[if_pos h]at e;refine⟨by rw[e];exact k.ok.ahead (la x (by simp)) (ha.src x (by simp)).2,fun id => ?_,?_⟩
    ·rw[e,vaj (fun t ht=>by have:=(k.ok.src t ht).1;omega),k.cf,yy x a];split
     ·rename_i e2;rw[zag (l:=y :: b) (fun t ht=>by have:=jaY hb t ht;omega)];grind
     ·rfl
    ·rw[e];have h1:=kB x.s (p*x.c) (lin p q a (y :: b));have h2:=k.len;simp at h2 ⊢;omega
   ·have k:=ih a b oo ha.tail hb.tail (x.s+1) (jV ha) (fun t ht=>by have:=jV hb t ht;omega);have e:=qI p q x y a b;rw[if_neg oo,if_neg oo]at e;refine⟨by rw[e];exact k.ok.ahead (la x (by simp)) (ha.src x (by simp)).2,fun id => ?_,?_⟩
    ·rw[e,vaj (fun t ht=>by have:=(k.ok.src t ht).1;omega),k.cf,yy x a,yy y b,<- h];split<;>rfl
    ·rw[e];have h1:=kB x.s (p*x.c+q*y.c) (lin p q a b);have h2:=k.len;simp;omega
   ·have k:=ih (x :: a) b (by simp;omega) ha hb.tail (y.s+1) (fun t ht=>by have:=jaY ha t ht;omega) (jV hb);have e:=qI p q x y a b;rw[if_neg oo,if_pos h]at e;refine⟨by rw[e];exact k.ok.ahead (lb y (by simp)) (hb.src y (by simp)).2,fun id => ?_,?_⟩
    ·rw[e,vaj (fun t ht=>by have:=(k.ok.src t ht).1;omega),k.cf,yy y b];split
     ·rename_i e2;rw[zag (l:=x :: a) (fun t ht=>by have:=jaY ha t ht;omega)];grind
     ·rfl
    ·rw[e];have h1:=kB y.s (q*y.c) (lin p q (x :: a) b);have h2:=k.len;simp at h2 ⊢;omega
theorem LinOk.srcOk{lo:Nat}{l:List Trm}(h:LinOk lo l)(h1:1<=lo):SrcOk l:=⟨fun t ht=>by have:=h.src t ht;exact⟨oo,this.2⟩,h.asc⟩
theorem vbt{p q:Rat}{a b:List Trm}(ha:SrcOk a)(hb:SrcOk b):LinSpec p q a b 1:=jcl p q _ a b (Am _) ha hb 1 (fun t ht=>(ha.src t ht).1) (fun t ht=>(hb.src t ht).1)
def kC(p q:Rat)(a b:Frm):Frm:=⟨p*a.c+q*b.c,lin p q a.t b.t,vj p*a.r+vj q*b.r⟩
def yj(vs:List Trm)(c:Rat)(l:List Trm):Nat->Rat
 | 0=>c
 | k+1=>match ky vs (trD l k).s with
  | some v=>yj vs c l k+(trD l k).c*v
  | none=>yj vs c l k
def ke(vs l:List Trm):List Trm:=l.filter fun t=>(ky vs t.s).isNone
theorem jaG{vs l:List Trm}{k:Nat}(hk:k<l.length):ke vs (l.take (k+1))=if ky vs (trD l k).s=none then ke vs (l.take k)++[trD l k] else ke vs (l.take k):=by
 unfold ke;rw[vaY hk,List.filter_append];by_cases h:ky vs (trD l k).s=none
 ·rw[if_pos h];simp[h]
 ·rw[if_neg h];have:(ky vs (trD l k).s).isNone=false:=by cases e:ky vs (trD l k).s with
   | none=>exact absurd e h
   | some v=>rfl
  simp[this]
def atI(f:Frm)(vs:List Trm):Iv:=⟨yj vs f.c f.t f.t.length-rad ⟨0,ke vs f.t,f.r⟩,yj vs f.c f.t f.t.length+rad ⟨0,ke vs f.t,f.r⟩⟩
def yh(f:Frm):Iv:=⟨f.c-rad f,f.c+rad f⟩
structure Pt where
 t:Nat
 iv:Iv
structure Hist where
 rate:Rat
 pts:List Pt
def vW(a b:Nat):Nat:=(a-b)+(b-a)
theorem qaC(a b:Nat):vW a b=vW b a:=by unfold vW;omega
theorem qbS(a:Nat):vW a a=0:=by unfold vW;omega
theorem kcf(a b c:Nat):vW a c<=vW a b+vW b c:=by unfold vW;omega
theorem zbB(a b k:Nat):vW (a+k) (b+k)=vW a b:=by unfold vW;omega
theorem kaM{a b n:Nat}(ha:a<=n)(hb:b<=n):vW a b<=n:=by unfold vW;omega
def far(r:Rat)(d:Nat):Rat:=r*(d:Rat)
theorem zcj(r:Rat):far r 0=0:=by unfold far;grind
theorem jar{r:Rat}(h:0<=r)(d:Nat):0<=far r d:=Dr h (by exact_mod_cast Bt d)
theorem zbh(r:Rat)(d e:Nat):far r (d+e)=far r d+far r e:=by unfold far;push_cast;grind
theorem vaS{r:Rat}(h:0<=r){d e:Nat}(hd:d<=e):far r d<=far r e:=by
 obtain⟨k,rfl⟩:∃ k,e=d+k:=⟨e-d,oo⟩
 rw[zbh];have:=jar h k;grind
theorem vci{r s:Rat}(h:r<=s)(d:Nat):far r d<=far s d:=by
 unfold far;have h1:0<=s-r:=by grind
 have h2:0<=(s-r)*(d:Rat):=Dr h1 (by exact_mod_cast Bt d);grind
theorem qbh{r:Rat}(h:0<=r)(a b c:Nat):far r (vW a c)<=far r (vW a b)+far r (vW b c):=by
 rw[<- zbh];exact vaS h (kcf a b c)
theorem qbC(r:Rat)(d:Nat):r*Rat.divInt (d:Int) 1=far r d:=by
 unfold far;rw[show Rat.divInt (d:Int) 1=(d:Rat) from by have:=kD (n:=(d:Int)) (T:=1) dd;simp at this;exact this.trans (by push_cast;rfl)]
def zaL(r:Rat)(t:Nat)(p:Pt):Rat:=p.iv.lo-far r (vW t p.t)
def zaf(r:Rat)(t:Nat)(p:Pt):Rat:=p.iv.hi+far r (vW t p.t)
def IsLo(r:Rat)(t:Nat)(l:List Pt)(x:Rat):Prop:=(∃ p,p∈l/\x=zaL r t p)/\∀ p,p∈l->zaL r t p<=x
def IsHi(r:Rat)(t:Nat)(l:List Pt)(x:Rat):Prop:=(∃ p,p∈l/\x=zaf r t p)/\∀ p,p∈l->x<=zaf r t p
theorem IsLo.one(r:Rat)(t:Nat)(p:Pt):IsLo r t [p] (zaL r t p):=⟨⟨p,by simp,rfl⟩,fun q hq=>by simp at hq;subst hq;exact CI⟩
theorem IsHi.one(r:Rat)(t:Nat)(p:Pt):IsHi r t [p] (zaf r t p):=⟨⟨p,by simp,rfl⟩,fun q hq=>by simp at hq;subst hq;exact CI⟩
theorem IsLo.unique{r:Rat}{t:Nat}{l:List Pt}{x y:Rat}(h:IsLo r t l x)(k:IsLo r t l y):x=y:=by
 obtain⟨⟨p,hp,e⟩,h2⟩:=h;obtain⟨⟨q,hq,e'⟩,k2⟩:=k;have:=h2 q hq;have:=k2 p hp;grind
theorem IsHi.unique{r:Rat}{t:Nat}{l:List Pt}{x y:Rat}(h:IsHi r t l x)(k:IsHi r t l y):x=y:=by
 obtain⟨⟨p,hp,e⟩,h2⟩:=h;obtain⟨⟨q,hq,e'⟩,k2⟩:=k;have:=h2 q hq;have:=k2 p hp;grind
def jZ(r:Rat)(a b:Pt):Prop:=far r (vW b.t a.t)<b.iv.lo-a.iv.hi\/far r (vW b.t a.t)<a.iv.lo-b.iv.hi
theorem qaN{r:Rat}{a b:Pt}:¬ jZ r a b↔b.iv.lo-a.iv.hi<=far r (vW b.t a.t)/\a.iv.lo-b.iv.hi<=far r (vW b.t a.t):=by
 unfold jZ;rw[not_or,Rat.not_lt,Rat.not_lt]
theorem qbf{r s:Rat}(h:r<=s){a b:Pt}(hc:jZ s a b):jZ r a b:=by
 have:=vci h (vW b.t a.t);rcases hc with hc|hc
 ·exact .inl (by grind)
 ·exact .inr (by grind)
def Free(h:Hist):Prop:=∀ p,p∈h.pts->∀ q,q∈h.pts->¬ jZ h.rate p q
def Knows(h:Hist)(t:Nat)(o:Iv):Prop:=IsLo h.rate t h.pts o.lo/\IsHi h.rate t h.pts o.hi
theorem Knows.unique{h:Hist}{t:Nat}{o o':Iv}(k:Knows h t o)(k':Knows h t o'):o=o':=by
 have h1:=k.1.unique k'.1;have h2:=k.2.unique k'.2
 cases o;cases o';simp only at h1 h2;subst h1 h2;rfl
theorem vc1{r:Rat}(hr:0<=r){t:Nat}{a b:Pt}(h:¬ jZ r a b):zaL r t b<=zaf r t a:=by
 have h1:=(qaN.1 h).1;have h2:=qbh hr b.t t a.t;rw[qaC b.t t]at h2;unfold zaL zaf;grind
theorem Knows.ok{h:Hist}{t:Nat}{o:Iv}(hr:0<=h.rate)(hf:Free h)(k:Knows h t o):o.Ok:=by
 obtain⟨⟨⟨p,hp,e⟩,_⟩,⟨⟨q,hq,e'⟩,_⟩⟩:=k;show o.lo<=o.hi;rw[e,e'];exact vc1 hr (hf q hq p hp)
structure Hist.Ok(h:Hist):Prop where
 rate:0<=h.rate
 rdig:QDig 40 h.rate
 few:h.pts.length<=64
 times:∀ p,p∈h.pts->p.t<=1000000
 ivs:∀ p,p∈h.pts->p.iv.Ok/\IDig 40 p.iv
 sorted:h.pts.Pairwise fun a b=>a.t<=b.t
theorem jbf{n k:Nat}(h:n<10^k):Dig k (n:Int):=by unfold Dig;rw[Bo];exact h
theorem zbV{k:Nat}{r:Rat}(h:QDig k r){d:Nat}(hd:d<=1000000):QDig (k+7) (far r d):=by
 rw[<- qbC];exact h.mul (QDig.ofInt dd ((show d<10^7 by omega) |> jbf) ((show Dig 1 1 by unfold Dig;decide).mono oo))
theorem jbZ{j k:Nat}{r:Rat}{p:Pt}{t:Nat}(hr:QDig k r)(hp:IDig j p.iv)(ht:t<=1000000)(hpt:p.t<=1000000):QDig (j+k+8) (zaL r t p) :=
 (hp.1.sub (zbV hr (kaM ht hpt))).mono oo
theorem kbD{j k:Nat}{r:Rat}{p:Pt}{t:Nat}(hr:QDig k r)(hp:IDig j p.iv)(ht:t<=1000000)(hpt:p.t<=1000000):QDig (j+k+8) (zaf r t p) :=
 (hp.2.add (zbV hr (kaM ht hpt))).mono oo
theorem Knows.dig{j k:Nat}{h:Hist}{t:Nat}{o:Iv}(hk:Knows h t o)(hr:QDig k h.rate)(hj:∀ p,p∈h.pts->IDig j p.iv)(ht:t<=1000000)(htimes:∀ p,p∈h.pts->p.t<=1000000):IDig (j+k+8) o:=by
 obtain⟨⟨⟨p,hp,e⟩,_⟩,⟨⟨q,hq,e'⟩,_⟩⟩:=hk;constructor
 ·rw[e];exact jbZ hr (hj p hp) ht (htimes p hp)
 ·rw[e'];exact kbD hr (hj q hq) ht (htimes q hq)
def kde(l:List Pt)(t:Int):Nat:=l.countP fun p=>decide ((p.t:Int)<=t)
def va5(h:Hist)(t:Int):Hist:=⟨h.rate,h.pts.take (kde h.pts t)⟩
def vc7(c:Nat->Nat->Bool)(i k:Nat):List (Nat × Nat):=((List.range k).filter fun j=>decide (i<j)&&c i j).map fun j=>(i,j)
def yc3(c:Nat->Nat->Bool)(n i:Nat):List (Nat × Nat):=(List.range i).flatMap fun a=>vc7 c a n
instance (r:Rat) (a b:Pt):Decidable (jZ r a b):=inferInstanceAs (Decidable (_\/_))
def ptD(l:List Pt)(i:Nat):Pt:=l.getD i ⟨0,⟨0,0⟩⟩
def cAt(h:Hist)(i k:Nat):Bool:=decide (jZ h.rate (ptD h.pts i) (ptD h.pts k))
def cons(h:Hist):List (Nat × Nat):=yc3 (cAt h) h.pts.length h.pts.length
theorem Free.rate{r s:Rat}{l:List Pt}(h:r<=s)(hf:Free ⟨r,l⟩):Free ⟨s,l⟩:=fun p hp q hq hc=>hf p hp q hq (qbf h hc)
theorem Knows.more{r:Rat}{l m:List Pt}{t:Nat}{a b:Iv}(h:∀ p,p∈l->p∈m)(ka:Knows ⟨r,l⟩ t a)(kb:Knows ⟨r,m⟩ t b):b.Sub a:=by
 obtain⟨⟨⟨p,hp,e⟩,_⟩,⟨⟨q,hq,e'⟩,_⟩⟩:=ka;have h1:=kb.1.2 p (h p hp);have h2:=kb.2.2 q (h q hq);simp only at e e' h1 h2;exact⟨by rw[e];exact h1,by rw[e'];exact h2⟩
theorem Knows.own{h:Hist}{p:Pt}{d:Iv}(hp:p∈h.pts)(k:Knows h p.t d):d.Sub p.iv:=by
 have h1:=k.1.2 p hp;have h2:=k.2.2 p hp;unfold zaL at h1;unfold zaf at h2;rw[qbS,zcj]at h1 h2;exact⟨by grind,by grind⟩
structure Honest(h:Hist)(v:Nat->Rat)(n:Nat):Prop where
 slow:∀ i k,i<n->k<n->v i-v k<=far h.rate (vW i k)
 seen:∀ p,p∈h.pts->p.t<n/\p.iv.Has (v p.t)
theorem Honest.free{h:Hist}{v:Nat->Rat}{n:Nat}(hh:Honest h v n):Free h:=by
 intro p hp q hq;obtain⟨h1,h2⟩:=hh.seen p hp;obtain⟨h3,h4⟩:=hh.seen q hq;have h5:=hh.slow q.t p.t h3 h1;have h6:=hh.slow p.t q.t h1 h3;rw[qaC p.t q.t]at h6;have a1:=h2.1;have a2:=h2.2;have a3:=h4.1;have a4:=h4.2;exact qaN.2 ⟨by grind,by grind⟩
def Asks(h:Hist)(t:Nat)(v:Rat)(s:Nat)(l:List Pt)(x:Rat):Prop :=
 (x=v-far h.rate (vW t s)\/∃ q,q∈l/\x=q.iv.lo-far h.rate (vW q.t s))/\v-far h.rate (vW t s)<=x/\∀ q,q∈l->q.iv.lo-far h.rate (vW q.t s)<=x
theorem Asks.start(h:Hist)(t:Nat)(v:Rat)(s:Nat):Asks h t v s [] (v-far h.rate (vW t s)):=⟨.inl rfl,CI,by simp⟩
theorem Asks.le{h:Hist}{t:Nat}{v:Rat}{s:Nat}{l:List Pt}{x:Rat}{q:Pt}(a:Asks h t v s l x)(hq:q.iv.lo-far h.rate (vW q.t s)<=x):Asks h t v s (l++[q]) x :=
 ⟨a.1.elim .inl fun⟨p,hp,e⟩=>.inr ⟨p,List.mem_append_left _ hp,e⟩,a.2.1,fun p hp=>by
  rcases Cm.1 hp with hp|hp
  ·exact a.2.2 p hp
  ·simp at hp;subst hp;exact hq⟩
theorem Asks.slow{h:Hist}(hr:0<=h.rate){t s u:Nat}{v x y:Rat}(a:Asks h t v s h.pts x)(b:Asks h t v u h.pts y):x-far h.rate (vW s u)<=y:=by
 rcases a.1 with e|⟨q,hq,e⟩
 ·have h1:=qbh hr t s u;have h2:=b.2.1;grind
 ·have h1:=qbh hr q.t s u;have h2:=b.2.2 q hq;grind
theorem Asks.from{h:Hist}{t s:Nat}{v x:Rat}(a:Asks h t v s h.pts x):v-far h.rate (vW t s)<=x:=a.2.1
theorem Knows.over{h:Hist}{t:Nat}{o:Iv}(k:Knows h t o){e:Rat}(he:0<e):∃ p,p∈h.pts/\p.iv.hi<o.hi+e-far h.rate (vW t p.t):=by
 obtain⟨⟨q,hq,e'⟩,_⟩:=k.2;unfold zaf at e';exact⟨q,hq,by grind⟩
theorem Knows.under{h:Hist}{t:Nat}{o:Iv}(k:Knows h t o){e:Rat}(he:0<e):∃ p,p∈h.pts/\o.lo-e<p.iv.lo-far h.rate (vW p.t t):=by
 obtain⟨⟨q,hq,e'⟩,_⟩:=k.1;unfold zaL at e';rw[qaC t q.t]at e';exact⟨q,hq,by grind⟩
theorem Knows.after{h:Hist}{t n:Nat}{o:Iv}(hp:∀ p,p∈h.pts->p.t<=t)(k:Knows h t o):Knows h (t+n) ⟨o.lo-far h.rate n,o.hi+far h.rate n⟩:=by
 have key:∀ p,p∈h.pts->far h.rate (vW (t+n) p.t)=far h.rate (vW t p.t)+far h.rate n:=fun p hp'=>by
  have:=hp p hp';rw[<- zbh];congr 1;unfold vW;omega
 refine⟨⟨?_,fun p hp' => ?_⟩,⟨?_,fun p hp' => ?_⟩⟩
 ·obtain⟨⟨p,hp',e⟩,_⟩:=k.1;refine⟨p,hp',?_⟩;unfold zaL at *;have:=key p hp';grind
 ·have h1:=k.1.2 p hp';have:=key p hp';unfold zaL at *;grind
 ·obtain⟨⟨p,hp',e⟩,_⟩:=k.2;refine⟨p,hp',?_⟩;unfold zaf at *;have:=key p hp';grind
 ·have h1:=k.2.2 p hp';have:=key p hp';unfold zaf at *;grind
def jck(k:Nat)(l:List Pt):List Pt:=l.map fun p=>⟨p.t+k,p.iv⟩
theorem Free.later{r:Rat}{l:List Pt}(k:Nat):Free ⟨r,jck k l⟩↔Free ⟨r,l⟩:=by
 have e:∀ p q:Pt,jZ r ⟨p.t+k,p.iv⟩ ⟨q.t+k,q.iv⟩↔jZ r p q:=fun p q=>by unfold jZ;simp only[zbB]
 constructor
 ·intro h p hp q hq hc;exact h _ (BR.2 ⟨p,hp,rfl⟩) _ (BR.2 ⟨q,hq,rfl⟩) ((e p q).2 hc)
 ·intro h p hp q hq hc;obtain⟨p',hp',rfl⟩:=BR.1 hp;obtain⟨q',hq',rfl⟩:=BR.1 hq;exact h p' hp' q' hq' ((e p' q').1 hc)
end Go.Proofs.YtdiecekagiledaaGreatDoor
