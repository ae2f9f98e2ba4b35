/- Plain mathematics of fractions: Lean's rational numbers, as numerals. No. -/
import Derived.Test.YtdiecekagiledaaGreatDoorVPlain3
namespace Go.Proofs.YtdiecekagiledaaGreatDoor
open Go.Lib
def QDig(k:Nat)(q:Rat):Prop:=Dig k q.num/\Dig k (q.den:Int)
theorem QDig.mono{j k:Nat}{q:Rat}(h:QDig j q)(hjk:j<=k):QDig k q:=⟨h.1.mono hjk,h.2.mono hjk⟩
theorem den_pos(q:Rat):0<(q.den:Int):=by have:=q.den_pos;omega
theorem va8(q:Rat):q.num.natAbs.gcd (q.den:Int).natAbs=1:=by
 rw[Bo];exact q.reduced
theorem qF{n d:Int}(hd:0<d):(Rat.divInt n d).num=n/((n.natAbs.gcd d.natAbs:Nat):Int)/\((Rat.divInt n d).den:Int)=d/((n.natAbs.gcd d.natAbs:Nat):Int):=by
 rw[Rat.num_divInt,Rat.den_divInt,if_neg oo];have hs:d.sign=1:=Int.sign_eq_one_of_pos hd;have hg:d.gcd n=n.natAbs.gcd d.natAbs:=by unfold Int.gcd;exact Ej _ _
 rw[hs,Int.one_mul,hg];refine⟨rfl,?_⟩;rw[Int.natCast_ediv];congr 1;omega
theorem jaq{n d:Int}:Rat.divInt (-n) (-d)=Rat.divInt n d:=by
 rw[Cz,Cz,Rat.intCast_neg,Rat.intCast_neg];grind
theorem kk{k:Nat}{n d:Int}(hd:0<d)(hn:Dig k n)(hk:Dig k d):QDig k (Rat.divInt n d):=by
 obtain⟨h1,h2⟩:=qF (n:=n) hd;exact⟨by rw[h1];exact hn.ediv _,by rw[h2];exact hk.ediv _⟩
theorem qaj(a b:Rat):Rat.divInt (a.num*b.den+b.num*a.den) (a.den*b.den)=a+b:=by
 have ha:=den_pos a;have hb:=den_pos b;rw[<- Rat.divInt_add_divInt _ _ oo oo];rw[Cb,Cb]
theorem yan(a b:Rat):Rat.divInt (a.num*b.den-b.num*a.den) (a.den*b.den)=a-b:=by
 have ha:=den_pos a;have hb:=den_pos b;rw[<- Rat.divInt_sub_divInt _ _ oo oo];rw[Cb,Cb]
theorem kam(a b:Rat):Rat.divInt (a.num*b.num) (a.den*b.den)=a*b:=by
 rw[<- Rat.divInt_mul_divInt];rw[Cb,Cb]
theorem jaC(a b:Rat):Rat.divInt (a.num*b.den) (a.den*b.num)=a/b:=by
 rw[<- Rat.divInt_mul_divInt,Rat.div_def,Rat.inv_def];rw[Cb]
def zE(a b:Rat):Int:=if a<b then -1 else if b<a then 1 else 0
def vbc(a b:Int):Int:=if a<b then -1 else if b<a then 1 else 0
theorem qaM(a b:Rat):zE a b=vbc (a.num*b.den) (b.num*a.den):=by
 unfold zE vbc;simp only[Rat.lt_iff]
theorem cmpQ_le{a b:Rat}:zE a b<=0↔a<=b:=by unfold zE;split<;>(try split)<;>grind
theorem qE{a b:Rat}:0<=zE a b↔b<=a:=by unfold zE;split<;>(try split)<;>grind
theorem jbe{a b:Rat}:zE a b=0↔a=b:=by unfold zE;split<;>(try split)<;>grind
theorem kbe{a b:Rat}:zE a b<0↔a<b:=by unfold zE;split<;>(try split)<;>grind
theorem zcA{a b:Rat}:0<zE a b↔b<a:=by unfold zE;split<;>(try split)<;>grind
theorem qa3{n d m e p q r s:Int}(hd:0<d)(he:0<e)(h1:n=d*p+r)(h2:m=e*q+s)(_hr0:0<=r)(hr1:r<d)(hs0:0<=s)(_hs1:s<e) :
  (p<q->n*e<m*d)/\(p=q->n*e-m*d=r*e-s*d):=by
 subst h1 h2;refine⟨fun h => ?_,fun h => ?_⟩
 ·have h3:d*e*(p+1)<=d*e*q:=Int.mul_le_mul_of_nonneg_left oo (Int.le_of_lt (BG hd he));have h4:r*e<d*e:=Int.mul_lt_mul_of_pos_right hr1 he;have h5:0<=s*d:=CZ hs0 (Int.le_of_lt hd);have e1:(d*p+r)*e=d*e*p+r*e:=by grind
  have e2:(e*q+s)*d=d*e*q+s*d:=by grind
  have e3:d*e*(p+1)=d*e*p+d*e:=by grind
  omega
 ·subst h;grind
theorem za3{n d m e:Int}(hd:0<d)(he:0<e) :
  (n/d≠m/e->vbc (n*e) (m*d)=vbc (n/d) (m/e)) /\
  (n/d=m/e->n%d=0->m%e=0->vbc (n*e) (m*d)=0) /\
  (n/d=m/e->n%d=0->m%e≠0->vbc (n*e) (m*d) = -1) /\
  (n/d=m/e->n%d≠0->m%e=0->vbc (n*e) (m*d)=1) /\
  (n/d=m/e->n%d≠0->m%e≠0->0<n%d/\n%d<d/\0<m%e/\m%e<e/\vbc (n*e) (m*d) = -vbc (d*(m%e)) (e*(n%d))):=by
 have h1:n=d*(n/d)+n%d:=(Int.mul_ediv_add_emod n d).symm;have h2:m=e*(m/e)+m%e:=(Int.mul_ediv_add_emod m e).symm;have r0:=Dk n (b:=d) oo;have r1:=DM n hd;have s0:=Dk m (b:=e) oo;have s1:=DM m he;generalize n/d=p at *;generalize n%d=r at *;generalize m/e=q at *;generalize m%e=s at *;have k1:=qa3 hd he h1 h2 r0 r1 s0 s1;have k2:=qa3 he hd h2 h1 s0 s1 r0 r1;refine⟨fun h => ?_,fun h hr hs => ?_,fun h hr hs => ?_,fun h hr hs => ?_,fun h hr hs=>⟨oo,r1,oo,s1,?_⟩⟩
 ·rcases Int.lt_or_gt_of_ne h with h3|h3
  ·have:=k1.1 h3;unfold vbc;rw[if_pos this,if_pos h3]
  ·have:=k2.1 h3;unfold vbc;rw[if_neg oo,if_pos this,if_neg oo,if_pos h3]
 ·have:=k1.2 h;subst hr hs;unfold vbc;rw[if_neg oo,if_neg oo]
 ·have h3:=k1.2 h;subst hr;have h4:0<s*d:=BG oo hd;unfold vbc;rw[if_pos oo]
 ·have h3:=k1.2 h;subst hs;have h4:0<r*e:=BG oo he;unfold vbc;rw[if_neg oo,if_pos oo]
 ·have h3:=k1.2 h;have e1:d*s=s*d:=Int.mul_comm _ _;have e2:e*r=r*e:=Int.mul_comm _ _;rw[e1,e2];unfold vbc;by_cases c1:n*e<m*d
  ·rw[if_pos c1,if_neg oo,if_pos oo]
  ·by_cases c2:m*d<n*e
   ·rw[if_neg c1,if_pos c2,if_pos oo];rfl
   ·rw[if_neg c1,if_neg c2,if_neg oo,if_neg oo];rfl
def kay(a b:Rat):Rat:=if b<a then b else a
def qay(a b:Rat):Rat:=if a<b then b else a
theorem yaF(a b:Rat):kay a b<=a:=by unfold kay;split<;>grind
theorem yas(a b:Rat):kay a b<=b:=by unfold kay;split<;>grind
theorem jaF(a b:Rat):a<=qay a b:=by unfold qay;split<;>grind
theorem kas(a b:Rat):b<=qay a b:=by unfold qay;split<;>grind
theorem jaV(a b:Rat):kay a b=a\/kay a b=b:=by unfold kay;split<;>grind
theorem jaU(a b:Rat):qay a b=a\/qay a b=b:=by unfold qay;split<;>grind
theorem vbi{a b c:Rat}(h1:c<=a)(h2:c<=b):c<=kay a b:=by unfold kay;split<;>assumption
theorem vbj{a b c:Rat}(h1:a<=c)(h2:b<=c):qay a b<=c:=by unfold qay;split<;>assumption
def qbk(a b c d:Rat):Rat:=kay (kay (kay a b) c) d
def kbj(a b c d:Rat):Rat:=qay (qay (qay a b) c) d
theorem jbk(a b c d:Rat):qbk a b c d<=a/\qbk a b c d<=b/\qbk a b c d<=c/\qbk a b c d<=d:=by
 unfold qbk;have h1:=yaF (kay (kay a b) c) d;have h2:=yas (kay (kay a b) c) d;have h3:=yaF (kay a b) c;have h4:=yas (kay a b) c;have h5:=yaF a b;have h6:=yas a b;grind
theorem kbi(a b c d:Rat):a<=kbj a b c d/\b<=kbj a b c d/\c<=kbj a b c d/\d<=kbj a b c d:=by
 unfold kbj;have h1:=jaF (qay (qay a b) c) d;have h2:=kas (qay (qay a b) c) d;have h3:=jaF (qay a b) c;have h4:=kas (qay a b) c;have h5:=jaF a b;have h6:=kas a b;grind
theorem kcE(a b c d:Rat):qbk a b c d=a\/qbk a b c d=b\/qbk a b c d=c\/qbk a b c d=d:=by
 unfold qbk;have h1:=jaV (kay (kay a b) c) d;have h2:=jaV (kay a b) c;have h3:=jaV a b;grind
theorem zcE(a b c d:Rat):kbj a b c d=a\/kbj a b c d=b\/kbj a b c d=c\/kbj a b c d=d:=by
 unfold kbj;have h1:=jaU (qay (qay a b) c) d;have h2:=jaU (qay a b) c;have h3:=jaU a b;grind
theorem ybi{a b c d x:Rat}(h1:x<=a)(h2:x<=b)(h3:x<=c)(h4:x<=d):x<=qbk a b c d:=vbi (vbi (vbi h1 h2) h3) h4
theorem ybj{a b c d x:Rat}(h1:a<=x)(h2:b<=x)(h3:c<=x)(h4:d<=x):kbj a b c d<=x:=vbj (vbj (vbj h1 h2) h3) h4
theorem kbk{l h r s x:Rat}(h1:l<=r)(h2:r<=h)(hl:x<=l*s)(hh:x<=h*s):x<=r*s:=by
 rcases Rat.le_total (a:=0) (b:=s)with hs|hs
 ·exact Cu hl (AT h1 hs)
 ·have:=AT (a:=r) (b:=h) (c := -s) h2 (by grind);grind
theorem kaV{l h r s x:Rat}(h1:l<=r)(h2:r<=h)(hl:l*s<=x)(hh:h*s<=x):r*s<=x:=by
 rcases Rat.le_total (a:=0) (b:=s)with hs|hs
 ·exact Cu (AT h2 hs) hh
 ·have:=AT (a:=l) (b:=r) (c := -s) h1 (by grind);grind
theorem kbu{l h m n r s x:Rat}(h1:l<=r)(h2:r<=h)(h3:m<=s)(h4:s<=n)(p1:x<=l*m)(p2:x<=l*n)(p3:x<=h*m)(p4:x<=h*n):x<=r*s:=by
 refine kbk h1 h2 ?_ ?_
 ·rw[Dh l]at p1 p2;rw[Dh l];exact kbk h3 h4 p1 p2
 ·rw[Dh h]at p3 p4;rw[Dh h];exact kbk h3 h4 p3 p4
theorem ya6{l h m n r s x:Rat}(h1:l<=r)(h2:r<=h)(h3:m<=s)(h4:s<=n)(p1:l*m<=x)(p2:l*n<=x)(p3:h*m<=x)(p4:h*n<=x):r*s<=x:=by
 refine kaV h1 h2 ?_ ?_
 ·rw[Dh l]at p1 p2;rw[Dh l];exact kaV h3 h4 p1 p2
 ·rw[Dh h]at p3 p4;rw[Dh h];exact kaV h3 h4 p3 p4
theorem kaD{m n s:Rat}(h0:0<m\/n<0)(h3:m<=s)(h4:s<=n):n⁻¹<=s⁻¹/\s⁻¹<=m⁻¹:=by
 have key:∀ x y:Rat,0<x->x<=y->y⁻¹<=x⁻¹:=by
  intro x y hx hxy;have hx':0<x⁻¹:=Rat.inv_pos.2 hx;have hy':0<y⁻¹:=Rat.inv_pos.2 (by grind);have h:=Bp (a:=x) (b:=y) (c:=x⁻¹*y⁻¹) hxy (CG (Eg hx' hy'));have e1:x⁻¹*y⁻¹*x=y⁻¹:=by grind
  have e2:x⁻¹*y⁻¹*y=x⁻¹:=by grind
  rwa[e1,e2]at h
 rcases h0 with h0|h0
 ·exact⟨key s n (by grind) h4,key m s h0 h3⟩
 ·have k1:=key (-n) (-s) (by grind) (by grind);have k2:=key (-s) (-m) (by grind) (by grind);have e:∀ x:Rat,(-x)⁻¹ = -x⁻¹:=fun x=>by grind
  rw[e,e]at k1 k2;constructor<;>grind
theorem zcg{l h m n r s x:Rat}(h0:0<m\/n<0)(h1:l<=r)(h2:r<=h)(h3:m<=s)(h4:s<=n)(p1:x<=l/m)(p2:x<=l/n)(p3:x<=h/m)(p4:x<=h/n):x<=r/s:=by
 obtain⟨i1,i2⟩:=kaD h0 h3 h4;rw[Rat.div_def]at *;exact kbu h1 h2 i1 i2 p2 p1 p4 p3
theorem vbS{l h m n r s x:Rat}(h0:0<m\/n<0)(h1:l<=r)(h2:r<=h)(h3:m<=s)(h4:s<=n)(p1:l/m<=x)(p2:l/n<=x)(p3:h/m<=x)(p4:h/n<=x):r/s<=x:=by
 obtain⟨i1,i2⟩:=kaD h0 h3 h4;rw[Rat.div_def]at *;exact ya6 h1 h2 i1 i2 p2 p1 p4 p3
theorem qbF(q:Rat):(q.num:Rat)=q*(q.den:Int):=by
 have h:=Cb q;rw[Cz]at h;have hd:0<((q.den:Int):Rat):=BZ.2 (den_pos q);have h2:=Rat.div_mul_cancel (a:=(q.num:Rat)) (b:=((q.den:Int):Rat)) (by grind);rw[h]at h2;exact h2.symm
theorem jai(r:Rat)(n T:Int)(hn:(n:Rat)=r.num*T):(n/r.den:Int)<=r*T/\r*T<((n/r.den:Int):Rat)+1/\(n%r.den=0↔((n/r.den:Int):Rat)=r*T):=by
 have hd:=den_pos r;have hdq:0<((r.den:Int):Rat):=BZ.2 hd;have h1:n=r.den*(n/r.den)+n%r.den:=(Int.mul_ediv_add_emod n r.den).symm;have h2:=Dk n (b:=r.den) oo;have h3:=DM n hd;generalize n/(r.den:Int)=q at *;generalize n%(r.den:Int)=s at *;have hs0:(0:Rat)<=(s:Rat):=Rat.intCast_nonneg.2 h2;have hs1:(s:Rat)<((r.den:Int):Rat):=Rat.intCast_lt_intCast.2 h3;have e1:(n:Rat)=((r.den:Int):Rat)*q+s:=by rw[h1,Dl,BF]
 have e2:r*T*((r.den:Int):Rat)=((r.den:Int):Rat)*q+s:=by rw[<- e1,hn,qbF];grind
 have hz:s=0↔(s:Rat)=0:=by rw[<- Rat.intCast_zero,Rat.intCast_inj]
 refine⟨?_,?_,?_⟩
 ·have:(q:Rat)*((r.den:Int):Rat)<=r*T*((r.den:Int):Rat):=by grind
  exact Cj this hdq
 ·have:r*T*((r.den:Int):Rat)<((q:Rat)+1)*((r.den:Int):Rat):=by grind
  exact Rat.lt_of_mul_lt_mul_right this (CG hdq)
 ·rw[hz];constructor
  ·intro h;have h4:(q:Rat)*((r.den:Int):Rat)=r*T*((r.den:Int):Rat):=by grind
   have:=congrArg (· / ((r.den:Int):Rat)) h4;simpa[Rat.mul_div_cancel (show((r.den:Int):Rat)≠0 by grind)]using this
  ·intro h;grind
theorem kD{n T:Int}(hT:0<T):Rat.divInt n T*T=n:=by
 have hq:0<(T:Rat):=BZ.2 hT;rw[Cz,Rat.div_mul_cancel (by grind)]
theorem kak{n T:Int}{r:Rat}(hT:0<T):Rat.divInt n T<=r↔(n:Rat)<=r*T:=by
 have hq:0<(T:Rat):=BZ.2 hT;rw[<- kD (n:=n) hT];exact⟨fun h=>AT h (CG hq),fun h=>Cj h hq⟩
theorem yaE{n T:Int}{r:Rat}(hT:0<T):r<=Rat.divInt n T↔r*T<=n:=by
 have hq:0<(T:Rat):=BZ.2 hT;rw[<- kD (n:=n) hT];exact⟨fun h=>AT h (CG hq),fun h=>Cj h hq⟩
theorem qN{n m T:Int}(hT:0<T)(h:n<=m):Rat.divInt n T<=Rat.divInt m T:=by
 rw[kak hT,kD hT];exact Bw.2 h
theorem kT{n T:Int}(hT:0<T):Rat.divInt (n+1) T=Rat.divInt n T+Rat.divInt 1 T:=by
 have hq:0<(T:Rat):=BZ.2 hT;rw[Cz,Cz,Cz,Dl];grind
def jaS(r:Rat)(T:Int):Int:=r.num*T/r.den
def upI(r:Rat)(T:Int):Int:=jaS r T+if r.num*T%r.den=0 then 0 else 1
def dn(r:Rat)(T:Int):Rat:=Rat.divInt (jaS r T) T
def uq(r:Rat)(T:Int):Rat:=Rat.divInt (upI r T) T
theorem qac(r:Rat)(T:Int):(jaS r T:Rat)<=r*T/\r*T<(jaS r T:Rat)+1 :=
 have h:=jai r (r.num*T) T (BF _ _)
 ⟨h.1,h.2.1⟩
theorem kaz(r:Rat)(T:Int):r*T<=(upI r T:Rat)/\(upI r T:Rat)<r*T+1:=by
 obtain⟨h1,h2,h3⟩:=jai r (r.num*T) T (BF _ _);unfold upI;split
 ·rename_i h;have:=h3.1 h;rw[Int.add_zero];unfold jaS;constructor<;>grind
 ·rename_i h;have h4:¬ ((r.num*T/r.den:Int):Rat)=r*T:=fun e=>h (h3.2 e)
  rw[Dl,Dm];unfold jaS;constructor<;>grind
theorem vaM{a b:Int}(h1:(a:Rat)<(b:Rat)+1):a<=b:=by
 have:(a:Rat)<((b+1:Int):Rat):=by rw[Dl,Dm];exact h1
 have:=Rat.intCast_lt_intCast.1 this;omega
theorem qbB{r s:Rat}{T:Int}(hT:0<T)(h:r<=s):jaS r T<=jaS s T:=by
 have hq:0<(T:Rat):=BZ.2 hT;have h1:=(qac r T).1;have h2:=(qac s T).2;have h3:=AT h (CG hq);exact vaM (by grind)
theorem zcs{r s:Rat}{T:Int}(hT:0<T)(h:r<=s):upI r T<=upI s T:=by
 have hq:0<(T:Rat):=BZ.2 hT;have h1:=(kaz r T).2;have h2:=(kaz s T).1;have h3:=AT h (CG hq);exact vaM (by grind)
theorem zc4(r:Rat){T:Int}(hT:0<T):dn r T<=r:=(kak hT).2 (qac r T).1
theorem jc5(r:Rat){T:Int}(hT:0<T):r<=uq r T:=(yaE hT).2 (kaz r T).1
theorem kcA{r s:Rat}{T:Int}(hT:0<T)(h:r<=s):dn r T<=dn s T:=qN hT (qbB hT h)
theorem qcI{r s:Rat}{T:Int}(hT:0<T)(h:r<=s):uq r T<=uq s T:=qN hT (zcs hT h)
def yz(q m:Int):Prop:=0<=m/\m*m<=q/\q<(m+1)*(m+1)
def jy(r:Rat)(T:Int):Int:=r.num*T*T/r.den
def yW(r:Rat)(T m:Int):Prop:=r.num*T*T%r.den=0/\m*m=jy r T
theorem jat(r:Rat)(T:Int):(jy r T:Rat)<=r*T*T/\r*T*T<(jy r T:Rat)+1/\(r.num*T*T%r.den=0↔(jy r T:Rat)=r*T*T):=by
 have h:=jai r (r.num*T*T) (T*T) (by rw[BF,BF,BF];grind);rw[BF]at h;have e:r*((T:Rat)*T)=r*T*T:=by grind
 rw[e]at h;exact h
theorem va3{m T:Int}(hT:0<T):Rat.divInt m T*Rat.divInt m T*(T*T)=m*m:=by
 have h:=kD (n:=m) hT;grind
theorem vcW{m T:Int}{r:Rat}(hT:0<T):Rat.divInt m T*Rat.divInt m T<=r↔(m*m:Rat)<=r*T*T:=by
 have hq:0<(T:Rat):=BZ.2 hT;have hqq:0<(T:Rat)*T:=Eg hq hq;rw[<- va3 (m:=m) hT];have e:r*T*T=r*((T:Rat)*T):=by grind
 rw[e];exact⟨fun h=>AT h (CG hqq),fun h=>Cj h hqq⟩
theorem qcT{m T:Int}{r:Rat}(hT:0<T):r<=Rat.divInt m T*Rat.divInt m T↔r*T*T<=(m*m:Rat):=by
 have hq:0<(T:Rat):=BZ.2 hT;have hqq:0<(T:Rat)*T:=Eg hq hq;rw[<- va3 (m:=m) hT];have e:r*T*T=r*((T:Rat)*T):=by grind
 rw[e];exact⟨fun h=>AT h (CG hqq),fun h=>Cj h hqq⟩
theorem kbw{r:Rat}{T m:Int}(hT:0<T)(h:yz (jy r T) m):Rat.divInt m T*Rat.divInt m T<=r/\r<Rat.divInt (m+1) T*Rat.divInt (m+1) T:=by
 obtain⟨h0,h1,h2⟩:=h;obtain⟨s1,s2,_⟩:=jat r T;have g1:(m:Rat)*m<=jy r T:=by rw[<- BF];exact Bw.2 h1
 have g2:(jy r T:Rat)+1<=((m+1:Int):Rat)*((m+1:Int):Rat):=by
  rw[<- BF,<- Dm,<- Dl];exact Bw.2 h2
 refine⟨(vcW hT).2 (by grind),?_⟩;have:¬ Rat.divInt (m+1) T*Rat.divInt (m+1) T<=r:=fun h=>by
  have:=(vcW hT).1 h;grind
 grind
theorem jbH{r:Rat}{T m:Int}(hT:0<T)(h:yW r T m):r<=Rat.divInt m T*Rat.divInt m T:=by
 obtain⟨h1,h2⟩:=h;obtain⟨_,_,s3⟩:=jat r T;have g1:=s3.1 h1;have g2:(m:Rat)*m=jy r T:=by rw[<- BF,h2]
 exact(qcT hT).2 (by grind)
theorem ka9{r:Rat}{T m:Int}(hT:0<T)(h:yz (jy r T) m)(hx:¬ yW r T m):Rat.divInt m T*Rat.divInt m T<r:=by
 obtain⟨h0,h1,h2⟩:=h;obtain⟨s1,s2,s3⟩:=jat r T;have g1:(m:Rat)*m<=jy r T:=by rw[<- BF];exact Bw.2 h1
 have:¬ r<=Rat.divInt m T*Rat.divInt m T:=fun h=>by
  have h4:=(qcT hT).1 h;have h5:(jy r T:Rat)=r*T*T:=by grind
  have h6:((m*m:Int):Rat)=jy r T:=by rw[BF];grind
  exact hx ⟨s3.2 h5,Rat.intCast_inj.1 h6⟩
 grind
structure Iv where
 lo:Rat
 hi:Rat
def Iv.Ok(a:Iv):Prop:=a.lo<=a.hi
def Iv.Has(a:Iv)(r:Rat):Prop:=a.lo<=r/\r<=a.hi
def Iv.Sub(a b:Iv):Prop:=b.lo<=a.lo/\a.hi<=b.hi
def Iv.Free(b:Iv):Prop:=0<b.lo\/b.hi<0
def IDig(k:Nat)(a:Iv):Prop:=QDig k a.lo/\QDig k a.hi
theorem IDig.mono{j k:Nat}{a:Iv}(h:IDig j a)(hjk:j<=k):IDig k a:=⟨h.1.mono hjk,h.2.mono hjk⟩
theorem Iv.Ok.lo{a:Iv}(h:a.Ok):a.Has a.lo:=⟨CI,h⟩
theorem Iv.Ok.hi{a:Iv}(h:a.Ok):a.Has a.hi:=⟨h,CI⟩
theorem Iv.Has.ok{a:Iv}{r:Rat}(h:a.Has r):a.Ok:=Cu h.1 h.2
theorem Iv.Has.sub{a b:Iv}{r:Rat}(h:a.Has r)(hs:a.Sub b):b.Has r:=⟨Cu hs.1 h.1,Cu h.2 hs.2⟩
theorem Iv.sub_has{a b:Iv}(h1:b.Has a.lo)(h2:b.Has a.hi):a.Sub b:=⟨h1.1,h2.2⟩
theorem Iv.free_iff{b:Iv}:b.Free↔¬ b.Has 0:=by unfold Iv.Free Iv.Has;constructor<;>grind
theorem Iv.Free.sub{a b:Iv}(h:b.Free)(hs:a.Sub b):a.Free:=by
 unfold Iv.Free Iv.Sub at *;grind
theorem Iv.Free.ne{b:Iv}{s:Rat}(h:b.Free)(hs:b.Has s):s≠0:=fun e=>Iv.free_iff.1 h (e ▸ hs)
def zct(a b:Iv):Iv:=⟨a.lo+b.lo,a.hi+b.hi⟩
def zcv(a b:Iv):Iv:=⟨a.lo-b.hi,a.hi-b.lo⟩
def zcK(a b:Iv):Iv:=⟨qbk (a.lo*b.lo) (a.lo*b.hi) (a.hi*b.lo) (a.hi*b.hi),kbj (a.lo*b.lo) (a.lo*b.hi) (a.hi*b.lo) (a.hi*b.hi)⟩
def kcJ(a b:Iv):Iv:=⟨qbk (a.lo/b.lo) (a.lo/b.hi) (a.hi/b.lo) (a.hi/b.hi),kbj (a.lo/b.lo) (a.lo/b.hi) (a.hi/b.lo) (a.hi/b.hi)⟩
def qbi(a b:Iv):Iv:=⟨qbk a.lo a.hi b.lo b.hi,kbj a.lo a.hi b.lo b.hi⟩
def kaU(a b:Iv):Iv:=⟨qay a.lo b.lo,kay a.hi b.hi⟩
theorem jcb{a b:Iv}{r s:Rat}(h1:a.Has r)(h2:b.Has s):(zct a b).Has (r+s):=by
 unfold Iv.Has zct at *;constructor<;>grind
theorem kcq{a b:Iv}{r s:Rat}(h1:a.Has r)(h2:b.Has s):(zcv a b).Has (r-s):=by
 unfold Iv.Has zcv at *;constructor<;>grind
theorem jam{a b:Iv}{r s:Rat}(h1:a.Has r)(h2:b.Has s):(zcK a b).Has (r*s):=by
 obtain⟨l1,l2,l3,l4⟩:=jbk (a.lo*b.lo) (a.lo*b.hi) (a.hi*b.lo) (a.hi*b.hi);obtain⟨m1,m2,m3,m4⟩:=kbi (a.lo*b.lo) (a.lo*b.hi) (a.hi*b.lo) (a.hi*b.hi);exact⟨kbu h1.1 h1.2 h2.1 h2.2 l1 l2 l3 l4,ya6 h1.1 h1.2 h2.1 h2.2 m1 m2 m3 m4⟩
theorem jak{a b:Iv}{r s:Rat}(h0:b.Free)(h1:a.Has r)(h2:b.Has s):(kcJ a b).Has (r/s):=by
 obtain⟨l1,l2,l3,l4⟩:=jbk (a.lo/b.lo) (a.lo/b.hi) (a.hi/b.lo) (a.hi/b.hi);obtain⟨m1,m2,m3,m4⟩:=kbi (a.lo/b.lo) (a.lo/b.hi) (a.hi/b.lo) (a.hi/b.hi);exact⟨zcg h0 h1.1 h1.2 h2.1 h2.2 l1 l2 l3 l4,vbS h0 h1.1 h1.2 h2.1 h2.2 m1 m2 m3 m4⟩
theorem kZ{a b:Iv}{r:Rat}(h:a.Has r\/b.Has r):(qbi a b).Has r:=by
 obtain⟨l1,l2,l3,l4⟩:=jbk a.lo a.hi b.lo b.hi;obtain⟨m1,m2,m3,m4⟩:=kbi a.lo a.hi b.lo b.hi;unfold Iv.Has qbi at *;rcases h with h|h<;>constructor<;>grind
theorem yal{a b:Iv}{r:Rat}:(kaU a b).Has r↔a.Has r/\b.Has r:=by
 unfold Iv.Has kaU kay qay;constructor
 ·intro h;constructor<;>constructor<;>(split at h<;>split at h<;>grind)
 ·intro h;constructor<;>split<;>grind
theorem ycx{a b:Iv}(ha:a.Ok)(hb:b.Ok):(zct a b).Ok:=(jcb ha.lo hb.lo).ok
theorem kcH{a b:Iv}(ha:a.Ok)(hb:b.Ok):(zcv a b).Ok:=(kcq ha.lo hb.lo).ok
theorem ycE{a b:Iv}(ha:a.Ok)(hb:b.Ok):(zcK a b).Ok:=(jam ha.lo hb.lo).ok
theorem jcA{a b:Iv}(h0:b.Free)(ha:a.Ok)(hb:b.Ok):(kcJ a b).Ok:=(jak h0 ha.lo hb.lo).ok
theorem ycj{a b:Iv}(ha:a.Ok):(qbi a b).Ok:=(kZ (.inl ha.lo)).ok
theorem kcb{a b c d:Iv}(h1:a.Sub c)(h2:b.Sub d):(zct a b).Sub (zct c d):=by
 unfold Iv.Sub zct at *;constructor<;>grind
theorem ycq{a b c d:Iv}(h1:a.Sub c)(h2:b.Sub d):(zcv a b).Sub (zcv c d):=by
 unfold Iv.Sub zcv at *;constructor<;>grind
theorem jcm{a b c d:Iv}(ha:a.Ok)(hb:b.Ok)(h1:a.Sub c)(h2:b.Sub d):(zcK a b).Sub (zcK c d):=by
 have k1:=jam (ha.lo.sub h1) (hb.lo.sub h2);have k2:=jam (ha.lo.sub h1) (hb.hi.sub h2);have k3:=jam (ha.hi.sub h1) (hb.lo.sub h2);have k4:=jam (ha.hi.sub h1) (hb.hi.sub h2);exact⟨ybi k1.1 k2.1 k3.1 k4.1,ybj k1.2 k2.2 k3.2 k4.2⟩
theorem vcf{a b c d:Iv}(h0:d.Free)(ha:a.Ok)(hb:b.Ok)(h1:a.Sub c)(h2:b.Sub d):(kcJ a b).Sub (kcJ c d):=by
 have k1:=jak h0 (ha.lo.sub h1) (hb.lo.sub h2);have k2:=jak h0 (ha.lo.sub h1) (hb.hi.sub h2);have k3:=jak h0 (ha.hi.sub h1) (hb.lo.sub h2);have k4:=jak h0 (ha.hi.sub h1) (hb.hi.sub h2);exact⟨ybi k1.1 k2.1 k3.1 k4.1,ybj k1.2 k2.2 k3.2 k4.2⟩
theorem zbX{a b c d:Iv}(ha:a.Ok)(hb:b.Ok)(h1:a.Sub c)(h2:b.Sub d):(qbi a b).Sub (qbi c d):=by
 have k1:=kZ (b:=d) (.inl (ha.lo.sub h1));have k2:=kZ (b:=d) (.inl (ha.hi.sub h1));have k3:=kZ (a:=c) (.inr (hb.lo.sub h2));have k4:=kZ (a:=c) (.inr (hb.hi.sub h2));exact⟨ybi k1.1 k2.1 k3.1 k4.1,ybj k1.2 k2.2 k3.2 k4.2⟩
theorem zb0{a b c d:Iv}(h:(kaU a b).Ok)(h1:a.Sub c)(h2:b.Sub d):(kaU a b).Sub (kaU c d):=by
 have k1:=yal.1 h.lo;have k2:=yal.1 h.hi;exact Iv.sub_has (yal.2 ⟨k1.1.sub h1,k1.2.sub h2⟩) (yal.2 ⟨k2.1.sub h1,k2.2.sub h2⟩)
def ya9(a:Iv)(T:Int):Iv:=⟨dn a.lo T,uq a.hi T⟩
theorem vbH{a c:Iv}{T:Int}(hT:0<T)(h1:a.Sub c):(ya9 a T).Sub (ya9 c T):=⟨kcA hT h1.1,qcI hT h1.2⟩
theorem jbJ{a:Iv}{T:Int}(hT:0<T):a.Sub (ya9 a T):=⟨zc4 _ hT,jc5 _ hT⟩
theorem zaU{a y:Rat}(hy:0<=y)(h:a*a<=y*y):a<=y:=by
 rcases Rat.le_total (a:=a) (b:=y)with h1|h1
 ·exact h1
 ·have h2:=Bp (a:=y) (b:=a) (c:=y) h1 hy;have h3:=AT (a:=y) (b:=a) (c:=a) h1 (by grind);rcases Classical.em (a=y)with e|e
  ·grind
  ·have h4:0<a-y:=by grind
   have h5:0<a:=by grind
   have h6:=Eg h4 h5;grind
theorem qbu{a y:Rat}(hy:0<=y)(h:a*a<y*y):a<y:=by
 have h1:=zaU hy (CG h);rcases Classical.em (a=y)with e|e
 ·grind
 ·grind
theorem jcH{a y:Rat}(ha:0<=a)(h:a<=y):a*a<=y*y:=by
 have h2:=Bp (a:=a) (b:=y) (c:=a) h ha;have h3:=AT (a:=a) (b:=y) (c:=y) h (by grind);grind
def RootLo(r:Rat)(T:Int)(x:Rat):Prop:=∃ m,yz (jy r T) m/\x=Rat.divInt m T
def RootHi(r:Rat)(T:Int)(y:Rat):Prop:=∃ m,yz (jy r T) m/\((yW r T m/\y=Rat.divInt m T)\/(¬ yW r T m/\y=Rat.divInt (m+1) T))
theorem jH{m T:Int}(hT:0<T)(hm:0<=m):0<=Rat.divInt m T:=by
 rw[yaE hT];have:=Rat.intCast_nonneg.2 hm;grind
theorem vcr{T:Int}(hT:0<T):0<Rat.divInt 1 T:=by
 have:¬ Rat.divInt 1 T<=0:=by
  rw[kak hT,Dm];grind
 grind
theorem RootLo.spec{r x:Rat}{T:Int}(hT:0<T)(h:RootLo r T x):0<=x/\x*x<=r/\r<(x+Rat.divInt 1 T)*(x+Rat.divInt 1 T):=by
 obtain⟨m,hm,rfl⟩:=h;have h1:=kbw hT hm;rw[kT hT]at h1;exact⟨jH hT hm.1,h1⟩
theorem RootHi.spec{r y:Rat}{T:Int}(hT:0<T)(h:RootHi r T y):0<=y/\r<=y*y/\(y-Rat.divInt 1 T<0\/(y-Rat.divInt 1 T)*(y-Rat.divInt 1 T)<r):=by
 obtain⟨m,hm,h⟩:=h;have h1:=kbw hT hm;have h0:=jH hT hm.1;have hu:=vcr hT;rcases h with⟨he,rfl⟩|⟨he,rfl⟩
 ·have h2:=jbH hT he;refine⟨h0,h2,?_⟩;generalize Rat.divInt m T=y at *;generalize Rat.divInt 1 T=u at *;rcases Classical.em (y-u<0)with h3|h3
  ·exact .inl h3
  ·refine .inr ?_;have h4:0<=y-u:=by grind
   have h5:=jcH h4 (show y-u<=y by grind);have h6:(y-u)*(y-u)≠y*y:=by
    intro e;have:=zaU (a:=y) h4 (by grind);grind
   grind
 ·have h2:=ka9 hT hm he;rw[kT hT]at h1 ⊢;refine⟨by grind,CG h1.2,.inr ?_⟩;have e:Rat.divInt m T+Rat.divInt 1 T-Rat.divInt 1 T=Rat.divInt m T:=by grind
  rw[e];exact h2
theorem ya3{n m T:Int}(hT:0<T)(h:Rat.divInt n T<Rat.divInt m T):n<m:=by
 rcases Ce n m with h1|h1
 ·exact h1
 ·have:=qN hT h1;grind
theorem RootLo.mono{r s x y:Rat}{T:Int}(hT:0<T)(h:RootLo r T x)(k:RootLo s T y)(hrs:r<=s):x<=y:=by
 obtain⟨a1,a2,a3⟩:=h.spec hT;obtain⟨b1,b2,b3⟩:=k.spec hT;obtain⟨m,hm,rfl⟩:=h;obtain⟨n,hn,rfl⟩:=k;rw[<- kT hT]at b3;have h1:Rat.divInt m T<Rat.divInt (n+1) T:=qbu (jH hT (by have:=hn.1;omega)) (by grind);exact qN hT (by have:=ya3 hT h1;omega)
theorem RootHi.grid{r y:Rat}{T:Int}(h:RootHi r T y):∃ k:Int,y=Rat.divInt k T:=by
 obtain⟨m,_,⟨_,rfl⟩|⟨_,rfl⟩⟩:=h
 ·exact⟨m,rfl⟩
 ·exact⟨m+1,rfl⟩
theorem RootHi.mono{r s x y:Rat}{T:Int}(hT:0<T)(h:RootHi r T x)(k:RootHi s T y)(hrs:r<=s):x<=y:=by
 obtain⟨a1,a2,a3⟩:=h.spec hT;obtain⟨b1,b2,b3⟩:=k.spec hT;obtain⟨m,rfl⟩:=h.grid;obtain⟨n,rfl⟩:=k.grid;have e:Rat.divInt m T=Rat.divInt (m-1) T+Rat.divInt 1 T:=by rw[<- kT hT,Int.sub_add_cancel]
 have e2:Rat.divInt m T-Rat.divInt 1 T=Rat.divInt (m-1) T:=by grind
 rw[e2]at a3;have h1:Rat.divInt (m-1) T<Rat.divInt n T:=by
  rcases a3 with h3|h3
  ·grind
  ·exact qbu b1 (by grind)
 exact qN hT (by have:=ya3 hT h1;omega)
theorem QDig.add{j k:Nat}{a b:Rat}(ha:QDig j a)(hb:QDig k b):QDig (j+k+1) (a+b):=by
 rw[<- qaj];refine kk (BG (den_pos a) (den_pos b)) ?_ ((ha.2.mul hb.2).mono oo);exact(ha.1.mul hb.2).add (by rw[Ci];exact hb.1.mul ha.2)
theorem QDig.sub{j k:Nat}{a b:Rat}(ha:QDig j a)(hb:QDig k b):QDig (j+k+1) (a-b):=by
 rw[<- yan];refine kk (BG (den_pos a) (den_pos b)) ?_ ((ha.2.mul hb.2).mono oo);exact(ha.1.mul hb.2).sub (by rw[Ci];exact hb.1.mul ha.2)
theorem QDig.mul{j k:Nat}{a b:Rat}(ha:QDig j a)(hb:QDig k b):QDig (j+k) (a*b):=by
 rw[<- kam];exact kk (BG (den_pos a) (den_pos b)) (ha.1.mul hb.1) (ha.2.mul hb.2)
theorem QDig.div{j k:Nat}{a b:Rat}(ha:QDig j a)(hb:QDig k b)(hb0:b≠0):QDig (j+k) (a/b):=by
 rw[<- jaC];have hn:b.num≠0:=fun e=>hb0 (Dj.1 e)
 rcases Int.lt_or_gt_of_ne hn with h|h
 ·rw[<- jaq];refine kk ?_ ((ha.1.mul hb.2).neg) ((ha.2.mul hb.1).neg);have:=Int.mul_neg_of_pos_of_neg (den_pos a) h;omega
 ·exact kk (BG (den_pos a) h) (ha.1.mul hb.2) (ha.2.mul hb.1)
theorem QDig.ofInt{k:Nat}{n d:Int}(hd:0<d)(hn:Dig k n)(hk:Dig k d):QDig k (Rat.divInt n d):=kk hd hn hk
theorem qaV{k:Nat}{a b c d:Rat}(ha:QDig k a)(hb:QDig k b)(hc:QDig k c)(hd:QDig k d):QDig k (qbk a b c d):=by
 rcases kcE a b c d with e|e|e|e<;>rw[e]<;>assumption
theorem qaU{k:Nat}{a b c d:Rat}(ha:QDig k a)(hb:QDig k b)(hc:QDig k c)(hd:QDig k d):QDig k (kbj a b c d):=by
 rcases zcE a b c d with e|e|e|e<;>rw[e]<;>assumption
theorem vcl{k:Nat}{a b:Rat}(ha:QDig k a)(hb:QDig k b):QDig k (kay a b):=by
 rcases jaV a b with e|e<;>rw[e]<;>assumption
theorem ycl{k:Nat}{a b:Rat}(ha:QDig k a)(hb:QDig k b):QDig k (qay a b):=by
 rcases jaU a b with e|e<;>rw[e]<;>assumption
theorem qcb{j k:Nat}{a b:Iv}(ha:IDig j a)(hb:IDig k b):IDig (j+k+1) (zct a b):=⟨ha.1.add hb.1,ha.2.add hb.2⟩
theorem jcq{j k:Nat}{a b:Iv}(ha:IDig j a)(hb:IDig k b):IDig (j+k+1) (zcv a b):=⟨ha.1.sub hb.2,ha.2.sub hb.1⟩
theorem qcm{j k:Nat}{a b:Iv}(ha:IDig j a)(hb:IDig k b):IDig (j+k) (zcK a b) :=
 ⟨qaV (ha.1.mul hb.1) (ha.1.mul hb.2) (ha.2.mul hb.1) (ha.2.mul hb.2),qaU (ha.1.mul hb.1) (ha.1.mul hb.2) (ha.2.mul hb.1) (ha.2.mul hb.2)⟩
theorem Iv.Free.lo_ne{b:Iv}(h:b.Free)(hb:b.Ok):b.lo≠0:=h.ne hb.lo
theorem Iv.Free.hi_ne{b:Iv}(h:b.Free)(hb:b.Ok):b.hi≠0:=h.ne hb.hi
theorem ycf{j k:Nat}{a b:Iv}(ha:IDig j a)(hb:IDig k b)(h0:b.Free)(ho:b.Ok):IDig (j+k) (kcJ a b) :=
 ⟨qaV (ha.1.div hb.1 (h0.lo_ne ho)) (ha.1.div hb.2 (h0.hi_ne ho)) (ha.2.div hb.1 (h0.lo_ne ho)) (ha.2.div hb.2 (h0.hi_ne ho)),
  qaU (ha.1.div hb.1 (h0.lo_ne ho)) (ha.1.div hb.2 (h0.hi_ne ho)) (ha.2.div hb.1 (h0.lo_ne ho)) (ha.2.div hb.2 (h0.hi_ne ho))⟩
theorem vbW{k:Nat}{a b:Iv}(ha:IDig k a)(hb:IDig k b):IDig k (qbi a b):=⟨qaV ha.1 ha.2 hb.1 hb.2,qaU ha.1 ha.2 hb.1 hb.2⟩
theorem vbZ{k:Nat}{a b:Iv}(ha:IDig k a)(hb:IDig k b):IDig k (kaU a b):=⟨ycl ha.1 hb.1,vcl ha.2 hb.2⟩
def TT(p:Nat):Int:=((10^p:Nat):Int)
theorem qae(p:Nat):0<TT p:=by unfold TT;have:=Cy (n:=p) (show 0<10 by decide);omega
theorem zae(p:Nat):Dig (p+1) (TT p):=by
 unfold Dig TT;rw[Bo,Bn];have:=Cy (n:=p) (show 0<10 by decide);omega
theorem vA{j p:Nat}{z:Int}(h:Dig j z):Dig (j+p) (z*TT p):=by
 unfold Dig TT at *;rw[Int.natAbs_mul,Bo,Ef];exact CE h (Cy dd)
theorem ja4{j p:Nat}{r:Rat}(h:QDig j r):Dig (j+p) (jaS r (TT p)):=(vA h.1).ediv _
theorem zcI{j p:Nat}{r:Rat}(h:QDig j r):Dig (j+p+1) (upI r (TT p)):=by
 unfold upI;refine(ja4 h).add ?_;have h1:0<10^(j+p):=Cy dd;unfold Dig;split
 ·simpa using h1
 ·rcases Az (j+p)with e|e
  ·exfalso;have h2:QDig 0 r:=h.mono oo;have:=den_pos r;have h3:=h2.2;unfold Dig at h3;simp at h3;omega
  ·have:10^1<=10^(j+p):=Bm dd e;show(1:Int).natAbs<_;have e1:(1:Int).natAbs=1:=rfl;omega
theorem ycP{j p:Nat}{r:Rat}(h:QDig j r):QDig (j+p+1) (dn r (TT p)):=by
 refine kk (qae p) ((ja4 h).mono oo) ?_;rcases Az j with e|e
 ·subst e;have h3:=h.2;unfold Dig at h3;have:=den_pos r;omega
 ·exact(zae p).mono oo
theorem kcX{j p:Nat}{r:Rat}(h:QDig j r):QDig (j+p+1) (uq r (TT p)):=by
 refine kk (qae p) (zcI h) ?_;rcases Az j with e|e
 ·subst e;have h3:=h.2;unfold Dig at h3;have:=den_pos r;omega
 ·exact(zae p).mono oo
theorem ybH{j p:Nat}{a:Iv}(h:IDig j a):IDig (j+p+1) (ya9 a (TT p)):=⟨ycP h.1,kcX h.2⟩
theorem kS{j p:Nat}{r:Rat}(h:QDig j r):Dig (j+p+p) (jy r (TT p)):=(vA (vA h.1)).ediv _
theorem zV{q m:Int}(h:yz q m):0<=m/\m<=q:=by
 obtain⟨h0,h1,_⟩:=h;refine⟨h0,?_⟩;rcases Ce 0 m with h2|h2
 ·have:m*1<=m*m:=Int.mul_le_mul_of_nonneg_left oo h0;omega
 ·have e:m=0:=oo
  subst e;simpa using h1
theorem RootLo.dig{j p:Nat}{r x:Rat}(h:QDig j r)(hx:RootLo r (TT p) x):QDig (j+p+p+1) x:=by
 obtain⟨m,hm,rfl⟩:=hx;obtain⟨h0,h1⟩:=zV hm;have hd:Dig (j+p+p) m:=(kS h).of_le oo;exact kk (qae p) (hd.mono oo) ((zae p).mono oo)
theorem RootHi.dig{j p:Nat}{r x:Rat}(h:QDig j r)(hj:0<j)(hx:RootHi r (TT p) x):QDig (j+p+p+1) x:=by
 obtain⟨m,hm,hx⟩:=hx;obtain⟨h0,h1⟩:=zV hm;have hd:Dig (j+p+p) m:=(kS h).of_le oo;rcases hx with⟨_,rfl⟩|⟨_,rfl⟩
 ·exact kk (qae p) (hd.mono oo) ((zae p).mono oo)
 ·exact kk (qae p) (hd.add (kR dd oo)) ((zae p).mono oo)
def SqrtI(a:Iv)(T:Int)(s:Iv):Prop:=RootLo a.lo T s.lo/\RootHi a.hi T s.hi
theorem SqrtI.dig{j p:Nat}{a s:Iv}(h:IDig j a)(hj:0<j)(hs:SqrtI a (TT p) s):IDig (j+p+p+1) s:=⟨hs.1.dig h.1,hs.2.dig h.2 hj⟩
theorem SqrtI.ok{a s:Iv}{T:Int}(hT:0<T)(ha:a.Ok)(hs:SqrtI a T s):s.Ok:=by
 obtain⟨a1,a2,_⟩:=hs.1.spec hT;obtain⟨b1,b2,_⟩:=hs.2.spec hT;have h:a.lo<=a.hi:=ha;exact zaU b1 (Cu a2 (Cu h b2))
theorem SqrtI.sub{a c s t:Iv}{T:Int}(hT:0<T)(h:a.Sub c)(hs:SqrtI a T s)(ht:SqrtI c T t):s.Sub t:=⟨ht.1.mono hT hs.1 h.1,hs.2.mono hT ht.2 h.2⟩
end Go.Proofs.YtdiecekagiledaaGreatDoor
