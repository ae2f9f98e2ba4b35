/- Plain mathematics: decimal numerals, groups of four digits, long division. -/
import Derived.Test.YtdiecekagiledaaGreatDoorVMc
import Derived.Lib.AtoiAll
import Derived.Lib.ItoaLen
namespace Go.Proofs.YtdiecekagiledaaGreatDoor
open Go.Lib
def zl(l:List UInt8):Nat:=l.foldl (fun a c=>a*10+(c.toNat-48)) 0
def jl(c:UInt8):Bool:=decide (48<=c.toNat)&&decide (c.toNat<=57)
theorem vaq(l:List UInt8)(c:UInt8):zl (l++[c])=zl l*10+(c.toNat-48):=by simp[zl]
theorem vbV(l:List UInt8):∀ a,l.foldl (fun a c=>a*10+(c.toNat-48)) a=a*10^l.length+zl l:=by
 induction l with
 | nil=>intro a;simp[zl]
 | cons c l ih =>
  intro a;have h1:=ih (a*10+(c.toNat-48));have h2:=ih (0*10+(c.toNat-48));unfold zl;simp only[List.foldl_cons,AE];rw[h1,h2,Bn];simp only[Nat.zero_mul,Bj];rw[Bv,Br a 10,Bq 10 (10^l.length)];omega
theorem yI(l m:List UInt8):zl (l++m)=zl l*10^m.length+zl m:=by
 unfold zl;rw[List.foldl_append,vbV m];rfl
theorem yaq(c:UInt8)(m:List UInt8):zl (c :: m)=(c.toNat-48)*10^m.length+zl m:=by
 have:=yI [c] m;simpa[zl]using this
theorem qci(l:List UInt8)(h:∀ c∈l,jl c=true):zl l<10^l.length:=by
 induction l with
 | nil=>simp[zl]
 | cons c l ih =>
  have h1:=ih (fun x hx=>h x (Bx _ hx));have h2:=h c (CN ..);simp[jl]at h2;rw[yaq,AE,Bn];have h3:(c.toNat-48)<=9:=oo
  have h4:=BC (10^l.length) h3;omega
theorem yN(u:Nat)(h:u<10):(UInt8.ofNat (48+u)).toNat=48+u:=by
 rw[UInt8.toNat_ofNat'];omega
theorem yag(u:Nat)(h:u<10):jl (UInt8.ofNat (48+u))=true:=by
 unfold jl;rw[yN u h];simp;omega
theorem za7(c:UInt8)(h:jl c=true):UInt8.ofNat (48+(c.toNat-48))=c:=by
 simp[jl]at h;rw[show 48+(c.toNat-48)=c.toNat by omega];simp
theorem kI{u:Nat}(h:u<10):decDigits u=[UInt8.ofNat (48+u)]:=by rw[decDigits,dif_pos h]
theorem jO{u:Nat}(h:¬ u<10):decDigits u=decDigits (u/10)++[UInt8.ofNat (48+u%10)]:=by rw[decDigits,dif_neg h]
theorem vo(u:Nat):zl (decDigits u)=u:=by
 induction u using Nat.strongRecOn with
 | _ u ih =>
  by_cases h:u<10
  ·rw[kI h];simp only[zl,List.foldl_cons,List.foldl_nil,yN u h];omega
  ·rw[jO h,vaq,ih (u/10) oo,yN _ (BA _ dd)];omega
theorem kw(u:Nat):∀ c∈decDigits u,jl c=true:=by
 induction u using Nat.strongRecOn with
 | _ u ih =>
  by_cases h:u<10
  ·rw[kI h];intro c hc;obtain rfl:=DL.1 hc;exact yag u h
  ·rw[jO h];intro c hc;rcases Cm.1 hc with hc|hc
   ·exact ih (u/10) oo c hc
   ·obtain rfl:=DL.1 hc;exact yag _ (BA _ dd)
theorem jC(u:Nat):decDigits u≠[]:=by
 intro h;have h1:=decDigits_length u;have h2:=nDigits_pos u;rw[h]at h1;simp at h1;omega
def vbh(l:List UInt8):Prop:=l≠[]/\(∀ c∈l,jl c=true)/\(l=[48]\/l.head? ≠ some 48)
theorem zC(u:Nat)(h:0<u):(decDigits u).head? ≠ some 48:=by
 induction u using Nat.strongRecOn with
 | _ u ih =>
  by_cases h9:u<10
  ·rw[kI h9];simp only[List.head?_cons];intro e;have e':(UInt8.ofNat (48+u)).toNat=48:=by
    injection e with e;rw[e];rfl
   rw[yN u h9]at e';omega
  ·rw[jO h9];have h1:=ih (u/10) oo oo;rw[List.head?_append]
   cases hd:(decDigits (u/10)).head? with
   | none=>exact absurd (DW.1 hd) (jC _)
   | some c=>rw[hd]at h1;simpa using h1
theorem jm:decDigits 0=[48]:=by rw[kI oo];rfl
theorem kae(u:Nat):vbh (decDigits u):=by
 refine⟨jC u,kw u,?_⟩;rcases Az u with rfl|h
 ·exact .inl jm
 ·exact .inr (zC u h)
theorem jG(l:List UInt8)(hn:l≠[])(hd:∀ c∈l,jl c=true)(hh:l.head? ≠ some 48):10^(l.length-1)<=zl l:=by
 cases l with
 | nil=>exact absurd rfl hn
 | cons c l =>
  have h2:=hd c (CN ..);simp[jl]at h2;have h3:c.toNat≠48:=by
   intro e;apply hh;simp;exact UInt8.toNat_inj.1 (by rw[e];rfl)
  rw[yaq];simp only[AE,Ca];have h4:1<=c.toNat-48:=oo
  have h5:=BC (10^l.length) h4;omega
theorem jbW{l:List UInt8}{c:UInt8}(hl:l≠[])(h:vbh (l++[c])):vbh l/\0<zl l:=by
 obtain⟨_,hd,hh⟩:=h;have hd':∀ c∈l,jl c=true:=fun x hx=>hd x (List.mem_append_left _ hx)
 have hh':l.head? ≠ some 48:=by
  rcases hh with e|e
  ·exfalso;have h1:=congrArg List.length e;have h0:=DB.2 hl;rw[AQ]at h1;simp only[AE,Bh]at h1;omega
  ·rw[List.head?_append]at e
   cases hx:l.head? with
   | none=>exact absurd (DW.1 hx) hl
   | some x=>rw[hx]at e;simpa using e
 refine⟨⟨hl,hd',.inr hh'⟩,?_⟩;have:=jG l hl hd' hh';have hp:0<10^(l.length-1):=Cy dd;omega
theorem va4:∀(n:Nat) (l:List UInt8),l.length=n->vbh l->l=decDigits (zl l):=by
 intro n
 induction n with
 | zero=>intro l h g;exact absurd (Bc.1 h) g.1
 | succ n ih =>
  intro l h g;obtain⟨m,c,rfl⟩:∃ m c,l=m++[c]:=by
   refine⟨l.dropLast,l.getLast g.1,(BK g.1).symm⟩
  have hc:jl c=true:=g.2.1 c (by simp);have hc':=hc;simp[jl]at hc';by_cases hm:m=[]
  ·subst hm;simp only[Co];have e:zl [c]=c.toNat-48:=by simp[zl]
   rw[e,kI oo,za7 c hc]
  ·obtain⟨g1,g2⟩:=jbW hm g;have h1:=ih m (by simp at h;omega) g1;rw[vaq,jO oo];rw[show(zl m*10+(c.toNat-48))/10=zl m by omega,show(zl m*10+(c.toNat-48))%10=c.toNat-48 by omega,<- h1,za7 c hc]
theorem kaT{l:List UInt8}(g:vbh l):l=decDigits (zl l):=va4 _ l rfl g
theorem jT{a b:Nat}(h:decDigits a=decDigits b):a=b:=by
 have:=congrArg zl h
 rwa[vo,vo]at this
theorem yau(u k:Nat):(decDigits u).length<=k/\0<k↔u<10^k/\0<k:=by
 rw[decDigits_length];constructor
 ·rintro⟨h,hk⟩;exact⟨AG (lt_pow_nDigits u) (Bm dd h),hk⟩
 ·rintro⟨h,hk⟩;refine⟨?_,hk⟩;rcases AJ k (nDigits u)with hlt|hge
  ·exfalso;have g:=kae u;rcases Az u with rfl|hu
   ·rw[nDigits_small oo]at hlt;omega
   ·have h1:=jG _ g.1 g.2.1 (zC u hu);rw[vo,decDigits_length]at h1;have h2:10^k<=10^(nDigits u-1):=Bm dd oo;omega
  ·exact hge
def val:List Nat->Nat
 | []=>0
 | d :: l=>d+10000*val l
def Small(l:List Nat):Prop:=∀ d∈l,d<10000
def Norm(l:List Nat):Prop:=Small l/\l.getLast? ≠ some 0
def gd(l:List Nat)(i:Nat):Nat:=l.getD i 0
theorem qJ:Small []:=fun _ h=>by cases h
theorem zcn:Norm []:=⟨qJ,by simp⟩
theorem Small.cons{d:Nat}{l:List Nat}(h:Small (d :: l)):d<10000/\Small l:=⟨h d (CN ..),fun x hx=>h x (Bx _ hx)⟩
theorem Small.mk{d:Nat}{l:List Nat}(h:d<10000)(hl:Small l):Small (d :: l):=fun x hx=>by
 rcases Bd.1 hx with rfl|hx
 ·exact h
 ·exact hl x hx
theorem Small.append{l m:List Nat}(h:Small l)(hm:Small m):Small (l++m):=fun x hx=>by
 rcases Cm.1 hx with hx|hx
 ·exact h x hx
 ·exact hm x hx
theorem Small.take{l:List Nat}(h:Small l)(k:Nat):Small (l.take k):=fun x hx=>h x (Dv hx)
theorem Small.get{l:List Nat}(h:Small l)(k:Nat):l.getD k 0<10000:=by
 rw[Ap]
 cases e:l[k]? with
 | none=>simp
 | some x=>exact h x (Bk e)
theorem kbK(l m:List Nat):val (l++m)=val l+10000^l.length*val m:=by
 induction l with
 | nil=>simp[val]
 | cons d l ih =>
  simp only[BM,val,ih,AE,Bn];rw[CJ,Bq (10000^l.length) 10000,Br];omega
theorem qb9{l:List Nat}(h:Small l):val l<10000^l.length:=by
 induction l with
 | nil=>simp[val]
 | cons d l ih =>
  have h1:=ih h.cons.2;have h2:=h.cons.1;simp only[val,AE,Bn];omega
theorem Norm.cons{d:Nat}{l:List Nat}(h:Norm (d :: l)):d<10000/\Norm l/\(l=[]->d≠0):=by
 refine⟨h.1.cons.1,⟨h.1.cons.2,?_⟩,?_⟩
 ·have h2:=h.2
  cases l with
  | nil=>simp
  | cons x l=>rw[List.getLast?_cons_cons]at h2;exact h2
 ·rintro rfl e;subst e;exact h.2 (by simp)
theorem Norm.val_pos{l:List Nat}(h:Norm l)(hn:l≠[]):0<val l:=by
 induction l with
 | nil=>exact absurd rfl hn
 | cons d l ih =>
  obtain⟨_,h2,h3⟩:=h.cons;simp only[val];by_cases hl:l=[]
  ·have:=h3 hl;omega
  ·have:=ih h2 hl;omega
theorem Norm.val_ge{l:List Nat}(h:Norm l)(hn:l≠[]):10000^(l.length-1)<=val l:=by
 induction l with
 | nil=>exact absurd rfl hn
 | cons d l ih =>
  obtain⟨_,h2,h3⟩:=h.cons;simp only[val,AE,Ca];by_cases hl:l=[]
  ·subst hl;have:=h3 rfl;simp[val];omega
  ·have h4:=ih h2 hl;have h5:0<l.length:=DB.2 hl;rw[show l.length=(l.length-1)+1 by omega,Bn];omega
theorem Norm.val_zero{l:List Nat}(h:Norm l):val l=0↔l=[]:=by
 constructor
 ·intro e;by_cases hl:l=[]
  ·exact hl
  ·have:=h.val_pos hl;omega
 ·rintro rfl;rfl
theorem Norm.inj:∀ {l m:List Nat},Norm l->Norm m->val l=val m->l=m:=by
 intro l
 induction l with
 | nil =>
  intro m _ hm e;exact((hm.val_zero).1 e.symm).symm
 | cons d l ih =>
  intro m hl hm e
  cases m with
  | nil=>exact absurd ((hl.val_zero).1 e) (by simp)
  | cons x m =>
   have h1:=hl.cons;have h2:=hm.cons;simp only[val]at e;have e1:d=x:=oo
   have e2:val l=val m:=oo
   rw[e1,ih h1.2.1 h2.2.1 e2]
theorem Norm.lt_of_length{l m:List Nat}(h:Norm l)(hm:Norm m)(hlt:l.length<m.length):val l<val m:=by
 have h1:=qb9 h.1;have h2:=hm.val_ge (by rintro rfl;simp at hlt);have h3:10000^l.length<=10000^(m.length-1):=Bm dd oo;omega
theorem kao{l m:List Nat}(h:Small l)(hlen:l.length=m.length)(i:Nat)(hi:i<l.length)(hlt:l.getD i 0<m.getD i 0)
  (heq:∀ j,i<j->j<l.length->l.getD j 0=m.getD j 0):val l<val m:=by
 induction l generalizing m i with
 | nil=>simp at hi
 | cons d l ih =>
  cases m with
  | nil=>simp at hlen
  | cons x m =>
   simp only[AE,Nat.add_right_cancel_iff]at hlen;simp only[val]
   cases i with
   | zero =>
    simp only[DC]at hlt;have e:l=m:=by
     apply Dz hlen;intro j h1 h2;have:=heq (j+1) oo (by simp;omega);simp only[By]at this;rw[Ap,Ap,Ay h1,Ay h2]at this;simpa using this
    rw[e];omega
   | succ i =>
    simp only[By]at hlt;have h1:=ih h.cons.2 hlen i (by simpa using hi) hlt (fun j a b=>by
     have:=heq (j+1) oo (by simp;omega);simpa only[By]using this)
    have h2:=h.cons.1;omega
theorem yaC{l m:List Nat}(hlen:l.length=m.length)(heq:∀ j,j<l.length->l.getD j 0=m.getD j 0):l=m:=by
 apply Dz hlen;intro j h1 h2;have:=heq j h1;rw[Ap,Ap,Ay h1,Ay h2]at this;simpa using this
theorem jb9(l:List Nat)(k:Nat)(hz:∀ j,k<=j->l.getD j 0=0):val (l.take k)=val l:=by
 induction l generalizing k with
 | nil=>simp
 | cons d l ih =>
  cases k with
  | zero =>
   have h0:=hz 0 (Am _);simp only[DC]at h0;have h1:=ih 0 (fun j _=>by have:=hz (j+1) oo;simpa only[By]using this);simp only[AI,val]at h1 ⊢;omega
  | succ k =>
   have h1:=ih k (fun j hj=>by have:=hz (j+1) oo;simpa only[By]using this);simp only[AB,val,h1]
theorem vb0{l:List Nat}(h:Small l)(k:Nat)(hk:k<=l.length)(hne:0<k->l.getD (k-1) 0≠0):Norm (l.take k):=by
 refine⟨h.take k,?_⟩;intro e;rw[List.getLast?_eq_getElem?,Bu,BX hk]at e;rcases Az k with rfl|hp
 ·simp at e
 ·rw[List.getElem?_take_of_lt oo]at e;apply hne hp;rw[Ap,e];rfl
def kad(f:Nat->Int):Nat->Int
 | 0=>0
 | i+1=>kad f i+f i*10000^i
theorem qad(l:List Nat)(d:Nat):val (l++[d])=val l+d*10000^l.length:=by
 rw[kbK];simp only[val,Nat.mul_zero,Dg];rw[Bq]
theorem van(l:List Nat):∀ n,l.length<=n->kad (fun i=>(l.getD i 0:Nat)) n=val l:=by
 have key:∀ k,kad (fun i=>(l.getD i 0:Nat)) k=val (l.take k):=by
  intro k
  induction k with
  | zero=>simp[kad,val]
  | succ k ih =>
   simp only[kad,ih];by_cases hk:k<l.length
   ·have e:l.take (k+1)=l.take k++[l.getD k 0]:=by
     rw[CU hk,Ap,Ay hk];rfl
    rw[e,qad,Bu,BX oo];simp
   ·have e0:l.getD k 0=0:=by rw[Ap,AZ oo];rfl
    rw[e0,AY oo,AY oo];simp
 intro n hn;rw[key,AY hn]
theorem vcq(f g:Nat->Int)(n:Nat):kad (fun i=>f i+g i) n=kad f n+kad g n:=by
 induction n with
 | zero=>simp[kad]
 | succ n ih=>simp only[kad,ih,Int.add_mul];omega
theorem qcr(f g:Nat->Int)(n:Nat):kad (fun i=>f i-g i) n=kad f n-kad g n:=by
 induction n with
 | zero=>simp[kad]
 | succ n ih=>simp only[kad,ih,Int.sub_mul];omega
theorem zcr(f:Nat->Int)(c:Int)(n:Nat):kad (fun i=>f i*c) n=kad f n*c:=by
 induction n with
 | zero=>simp[kad]
 | succ n ih =>
  simp only[kad,ih,Int.add_mul];rw[Int.mul_assoc (f n) c,Int.mul_comm c,<- Int.mul_assoc]
def qbv(d:Nat):List UInt8:=List.replicate (4-(decDigits d).length) 48++decDigits d
theorem jcf{d:Nat}(h:d<10000):(decDigits d).length<=4:=((yau d 4).2 ⟨by simpa using h,by decide⟩).1
theorem zaC(d:Nat):1<=(decDigits d).length:=by rw[decDigits_length];exact nDigits_pos d
theorem jah{d:Nat}(h:d<10000):(qbv d).length=4:=by
 have:=jcf h;unfold qbv;rw[AQ,Do];omega
theorem kbg(k:Nat)(l:List UInt8):zl (List.replicate k 48++l)=zl l:=by
 induction k with
 | zero=>simp
 | succ k ih =>
  rw[DA,BM,yaq,ih];simp
theorem vbB(d:Nat):zl (qbv d)=d:=by unfold qbv;rw[kbg,vo]
theorem vcn(d:Nat):∀ c∈qbv d,jl c=true:=by
 intro c hc;rcases Cm.1 hc with hc|hc
 ·obtain⟨_,rfl⟩:=Df.1 hc;rfl
 ·exact kw d c hc
def qax:List Nat->List UInt8
 | []=>[]
 | t :: r=>decDigits t++r.flatMap qbv
theorem ybJ(l:List Nat)(d:Nat)(h:l≠[]):qax (l++[d])=qax l++qbv d:=by
 cases l with
 | nil=>exact absurd rfl h
 | cons t r=>simp[qax]
theorem zb7(l:List Nat):∀ c∈qax l,jl c=true:=by
 cases l with
 | nil=>intro c hc;cases hc
 | cons t r =>
  intro c hc;rcases Cm.1 hc with hc|hc
  ·exact kw t c hc
  ·obtain⟨d,_,hd⟩:=List.mem_flatMap.1 hc;exact vcn d c hd
theorem jaD(r:List Nat)(h:Small r):(r.flatMap qbv).length=4*r.length:=by
 induction r with
 | nil=>rfl
 | cons d r ih =>
  rw[List.flatMap_cons,AQ,jah h.cons.1,ih h.cons.2,AE];omega
theorem ybB(r:List Nat)(h:Small r):zl (r.flatMap qbv)=val r.reverse:=by
 induction r with
 | nil=>rfl
 | cons d r ih =>
  rw[List.flatMap_cons,yI,vbB,ih h.cons.2,jaD r h.cons.2,List.reverse_cons,qad,DD,Nat.pow_mul];have:(10:Nat)^4=10000:=by decide
  rw[this];omega
theorem jbg(l:List Nat)(h:Small l):zl (qax l)=val l.reverse:=by
 cases l with
 | nil=>rfl
 | cons t r =>
  simp only[qax];rw[yI,vo,ybB r h.cons.2,jaD r h.cons.2,List.reverse_cons,qad,DD,Nat.pow_mul];have:(10:Nat)^4=10000:=by decide
  rw[this];omega
theorem kbJ{l:List Nat}(h:Norm l)(hn:l≠[]):qax l.reverse=decDigits (val l):=by
 have hs:Small l.reverse:=fun d hd=>h.1 d (List.mem_reverse.1 hd)
 have e:=jbg l.reverse hs;rw[List.reverse_reverse]at e;rw[<- e];apply kaT;have hr:l.reverse≠[]:=by simpa using hn
 refine⟨?_,zb7 _,.inr ?_⟩
 ·cases hl:l.reverse with
  | nil=>exact absurd hl hr
  | cons t r=>simp only[qax];intro e;exact jC t (List.append_eq_nil_iff.1 e).1
 ·cases hl:l.reverse with
  | nil=>exact absurd hl hr
  | cons t r =>
   simp only[qax];have ht:t≠0:=by
    rintro rfl;apply h.2;have:=congrArg List.head? hl;rw[List.head?_reverse]at this;simpa using this
   rw[List.head?_append];have h1:=zC t oo
   cases hd:(decDigits t).head? with
   | none=>exact absurd (DW.1 hd) (jC _)
   | some c=>rw[hd]at h1;simpa using h1
theorem qbg(a b:List UInt8)(h:a=[]\/b.length=4):zl (a++b)=zl b+10000*zl a:=by
 rw[yI];rcases h with rfl|h
 ·simp[zl]
 ·rw[h];have:(10:Nat)^4=10000:=by decide
  rw[this];omega
theorem vaC(b:List UInt8)(hd:∀ c∈b,jl c=true)(h:b.length<=4):zl b<10000:=by
 have h1:=qci b hd;have h2:(10:Nat)^b.length<=10^4:=Bm dd h;have:(10:Nat)^4=10000:=by decide
 omega
theorem qcg(n r m:Nat)(hn:n<10000)(hr:r<m):(n+10000*r)/m<10000:=by
 apply Nat.div_lt_of_lt_mul;have:(r+1)*10000<=m*10000:=BC _ hr;omega
theorem ybn(R m:Nat)(a b:Nat)(hab:a<=b)(h:decide (R<(a+1)*m)=true):decide (R<(b+1)*m)=true:=by
 simp only[decide_eq_true_eq]at *;exact AG h (BC _ oo)
theorem zal(l:List Nat)(i:Nat)(h:i<l.length):l.drop i=l.getD i 0 :: l.drop (i+1):=by
 rw[Cq h,Ap,Ay h];rfl
theorem ybY(l q:List Nat)(i m r:Nat)(hi:i<l.length)(hq:q.length=l.length)
  (h:val (l.drop (i+1))=val (q.drop (i+1))*m+r) :
  val (l.drop i)=val ((q.set i ((l.getD i 0+10000*r)/m)).drop i)*m+(l.getD i 0+10000*r)%m:=by
 rw[zal l i hi,zal _ i (by simp;omega)];have e1:(q.set i ((l.getD i 0+10000*r)/m)).getD i 0=(l.getD i 0+10000*r)/m:=by
  rw[Ap,List.getElem?_set_self oo];rfl
 have e2:(q.set i ((l.getD i 0+10000*r)/m)).drop (i+1)=q.drop (i+1):=by
  rw[List.drop_set];simp
 simp only[val];rw[e1,e2,h];have h3:=Cp (l.getD i 0+10000*r) m;generalize (l.getD i 0+10000*r)/m=a at *;generalize (l.getD i 0+10000*r)%m=b at *;rw[Bq m a]at h3;rw[Bv,Br 10000];have:10000*(val (q.drop (i+1))*m+r)=10000*(val (q.drop (i+1))*m)+10000*r:=CJ ..;omega
theorem kaC{x q m r:Nat}(h:x=q*m+r)(hr:r<m):q=x/m/\r=x%m:=by
 have hm:0<m:=oo
 constructor
 ·rw[h,Ci,Nat.add_mul_div_right _ _ hm,Nat.div_eq_of_lt hr];omega
 ·rw[h,Ci,Nat.add_mul_mod_self_right,Nat.mod_eq_of_lt hr]
theorem qbx{a b:Nat}(h:a*a<b*b):a<b:=by
 rcases AJ a b with h1|h1
 ·exact h1
 ·have:=Db h1 h1;omega
theorem jav(x r:Nat)(hr:0<r):x<((r+x/r)/2+1)*((r+x/r)/2+1):=by
 have h1:x<r*(x/r+1):=by
  have:=Cp x r;have h2:=BA x hr;rw[CJ];omega
 generalize x/r=q at *;have h3:r+q<=2*((r+q)/2)+1:=oo
 generalize hn:(r+q)/2=n at *
 have h4:4*(r*(q+1))<=(r+(q+1))*(r+(q+1)):=by
  rcases Nat.le_total r (q+1)with h|h
  ·obtain⟨d,hd⟩:=Nat.exists_eq_add_of_le h;rw[hd];have e:(r+(r+d))*(r+(r+d))=4*(r*(r+d))+d*d:=by
    simp only[CJ,Bv];have:=Bq d r;omega
   omega
  ·obtain⟨d,hd⟩:=Nat.exists_eq_add_of_le h;rw[hd];generalize q+1=p;have e:(p+d+p)*(p+d+p)=4*((p+d)*p)+d*d:=by
    simp only[CJ,Bv];have:=Bq d p;omega
   omega
 have h5:r+(q+1)<=2*(n+1):=oo
 have h6:=Db h5 h5;have h7:2*(n+1)*(2*(n+1))=4*((n+1)*(n+1)):=by
  rw[Nat.mul_mul_mul_comm]
 omega
theorem vaF(x r:Nat)(h:r<=(r+x/r)/2):r*r<=x:=by
 have h1:r<=x/r:=oo
 have:=CX r h1;exact Bb this (Nat.mul_div_le x r)
theorem va6(x k:Nat)(h:x<10000^(2*k)):x<(10000^k+1)*(10000^k+1):=by
 rw[show 2*k=k+k by omega,Ef]at h;have:=Db (Nat.le_succ (10000^k)) (Nat.le_succ (10000^k));exact AG h this
def IsRoot(x r:Nat):Prop:=r*r<=x/\x<(r+1)*(r+1)
theorem IsRoot.unique{x r s:Nat}(h:IsRoot x r)(h':IsRoot x s):r=s:=by
 have h1:=qbx (AS h.1 h'.2);have h2:=qbx (AS h'.1 h.2);omega
def jA(s:List UInt8):List UInt8:=if s.head? = some 45 then s.tail else s
def ks(s:List UInt8):Bool :=
 !((jA s).isEmpty)&&decide ((jA s).length<=200)&&(jA s).all jl&&(s==[48]||(jA s).head? != some 48)
def Fits(z:Int):Prop:=z.natAbs<10^200
instance (z:Int):Decidable (Fits z):=inferInstanceAs (Decidable (_<_))
theorem vE(u:Nat):itoa (u:Int)=decDigits u:=by unfold itoa;rw[if_neg oo];simp
theorem vag(u:Nat)(h:0<u):itoa (-(u:Int))=45 :: decDigits u:=by unfold itoa;rw[if_pos oo];simp
theorem zck:jl 45=false:=by decide
theorem vaB(u:Nat):(decDigits u).head? ≠ some 45:=by
 intro h;have hm:=List.mem_of_mem_head? h;have:=kw u 45 hm;rw[zck]at this;cases this
theorem vM(z:Int):jA (itoa z)=decDigits z.natAbs:=by
 rcases Ce z 0 with h|h
 ·have e:z = -(z.natAbs:Int):=oo
  rw[e,vag _ oo];simp[jA]
 ·have e:z=(z.natAbs:Int):=oo
  rw[e,vE];unfold jA;rw[if_neg (vaB _)];simp
theorem vZ(z:Int):(itoa z).head? = some 45↔z<0:=by
 rcases Ce z 0 with h|h
 ·have e:z = -(z.natAbs:Int):=oo
  rw[e,vag _ oo];simp;omega
 ·have e:z=(z.natAbs:Int):=oo
  rw[e,vE];constructor
  ·intro h';exact absurd h' (vaB _)
  ·intro h';omega
theorem kbt{a b:Int}(h:itoa a=itoa b):a=b:=by
 have h1:=vZ a;have h2:=vZ b;rw[h]at h1;have h3:=congrArg jA h;rw[vM,vM]at h3;have h4:=jT h3;have h5:a<0↔b<0:=h1.symm.trans h2;omega
theorem vau(u k:Nat)(hk:0<k):(decDigits u).length<=k↔u<10^k:=by
 have:=yau u k;constructor
 ·intro h;exact(this.1 ⟨h,hk⟩).1
 ·intro h;exact(this.2 ⟨h,hk⟩).1
theorem vO(z:Int):(decDigits z.natAbs).length<=200↔Fits z:=vau _ 200 dd
theorem qai(z:Int)(h:Fits z):ks (itoa z)=true:=by
 unfold ks;rw[vM];have g:=kae z.natAbs;have h1:(decDigits z.natAbs).isEmpty=false:=by simpa using g.1
 have h2:(decDigits z.natAbs).all jl=true:=by simpa[Be]using g.2.1
 rw[h1,h2,decide_eq_true ((vO z).2 h)];rcases Az z.natAbs with e|e
 ·have:z=((0:Nat):Int):=oo
  rw[this,vE,jm];rfl
 ·have:=zC _ e;simp[this]
theorem zai(s:List UInt8)(h:ks s=true):∃ z:Int,Fits z/\s=itoa z:=by
 unfold ks at h;simp only[AV,Dp,decide_eq_true_eq,DE,beq_iff_eq,bne_iff_ne]at h;obtain⟨⟨⟨h1,h2⟩,h3⟩,h4⟩:=h;have hn:jA s≠[]:=by intro e;rw[e]at h1;cases h1
 have hd:∀ c∈jA s,jl c=true:=Be.1 h3;by_cases hm:s.head? = some 45
 ·
  have e:jA s=s.tail:=by unfold jA;rw[if_pos hm]
  have es:s=45 :: jA s:=by
   rw[e]
   cases s with
   | nil=>cases hm
   | cons c r=>simp at hm;subst hm;rfl
  have hh:(jA s).head? ≠ some 48:=by
   rcases h4 with h4|h4
   ·rw[h4]at hm;cases hm
   ·exact h4
  have g:vbh (jA s):=⟨hn,hd,.inr hh⟩
  have e2:=kaT g;have hp:0<zl (jA s):=by
   have:=jG _ hn hd hh;have:0<10^((jA s).length-1):=Cy dd;omega
  refine⟨-(zl (jA s):Int),?_,?_⟩
  ·refine(vO _).1 ?_;rw[Da,Bo,<- e2];exact h2
  ·rw[vag _ hp,<- e2];exact es
 ·have e:jA s=s:=by unfold jA;rw[if_neg hm]
  rw[e]at hn hd h2 h4;have g:vbh s:=⟨hn,hd,h4⟩
  have e2:=kaT g;refine⟨(zl s:Int),?_,?_⟩
  ·refine(vO _).1 ?_;rw[Bo,<- e2];exact h2
  ·rw[vE,<- e2]
def zOf(s:List UInt8):Int:=if s.head? = some 45 then -(zl (jA s):Int) else zl (jA s)
theorem yaz(z:Int):zOf (itoa z)=z:=by
 unfold zOf;rw[vM,vo];by_cases h:z<0
 ·rw[if_pos ((vZ z).2 h)];omega
 ·rw[if_neg (fun e=>h ((vZ z).1 e))];omega
def jo(z:Int):Prop := -9223372036854775808<=z/\z<=9223372036854775807
instance (z:Int):Decidable (jo z):=inferInstanceAs (Decidable (_/\_))
theorem yaM{x y q r:Int}(h:r+y*q=x)(h0:0<=r)(h1:r<y.natAbs):x/y=q/\x%y=r:=by
 rcases DT y 0 with hy|hy|hy
 ·exact(Int.ediv_emod_unique' hy).2 ⟨h,h0,oo⟩
 ·omega
 ·exact(Int.ediv_emod_unique hy).2 ⟨h,h0,oo⟩
theorem qa4(x y:Int)(hy:y≠0)(h:0<=x\/x.natAbs%y.natAbs=0) :
  (if (x<0↔y<0) then((x.natAbs/y.natAbs:Nat):Int) else -((x.natAbs/y.natAbs:Nat):Int))=x/y/\((x.natAbs%y.natAbs:Nat):Int)=x%y:=by
 have hdm:=Cp x.natAbs y.natAbs;have hlt:=BA x.natAbs (show 0<y.natAbs by omega);generalize x.natAbs/y.natAbs=Q at *;generalize x.natAbs%y.natAbs=R at *;have e:(y.natAbs:Int)*(Q:Int)+R=x.natAbs:=by rw[<- hdm];simp
 rcases Ce x 0 with hx|hx<;>rcases Ce y 0 with hy'|hy'
 ·rw[if_pos oo];rw[show(y.natAbs:Int) = -y by omega,show(x.natAbs:Int) = -x by omega,Ee]at e;have:=yaM (x:=x) (y:=y) (q:=Q) (r:=R) oo oo oo;exact⟨this.1.symm,this.2.symm⟩
 ·rw[if_neg oo];rw[show(y.natAbs:Int)=y by omega,show(x.natAbs:Int) = -x by omega]at e;have:=yaM (x:=x) (y:=y) (q := -Q) (r:=R) (by rw[DN];omega) oo oo;exact⟨this.1.symm,this.2.symm⟩
 ·rw[if_neg oo];rw[show(y.natAbs:Int) = -y by omega,show(x.natAbs:Int)=x by omega,Ee]at e;have:=yaM (x:=x) (y:=y) (q := -Q) (r:=R) (by rw[DN];omega) oo oo;exact⟨this.1.symm,this.2.symm⟩
 ·rw[if_pos oo];rw[show(y.natAbs:Int)=y by omega,show(x.natAbs:Int)=x by omega]at e;have:=yaM (x:=x) (y:=y) (q:=Q) (r:=R) oo oo oo;exact⟨this.1.symm,this.2.symm⟩
theorem za4(x y:Int)(hy:y≠0)(hx:x<0)(h:x.natAbs%y.natAbs≠0) :
  (if (x<0↔y<0) then((x.natAbs/y.natAbs+1:Nat):Int) else -((x.natAbs/y.natAbs+1:Nat):Int))=x/y/\((y.natAbs-x.natAbs%y.natAbs:Nat):Int)=x%y:=by
 have hdm:=Cp x.natAbs y.natAbs;have hlt:=BA x.natAbs (show 0<y.natAbs by omega);generalize x.natAbs/y.natAbs=Q at *;generalize x.natAbs%y.natAbs=R at *;have e:(y.natAbs:Int)*(Q:Int)+R=x.natAbs:=by rw[<- hdm];simp
 rcases Ce y 0 with hy'|hy'
 ·rw[if_pos oo];rw[show(y.natAbs:Int) = -y by omega,show(x.natAbs:Int) = -x by omega,Ee]at e;have:=yaM (x:=x) (y:=y) (q:=((Q+1:Nat):Int)) (r:=((y.natAbs-R:Nat):Int)) (by rw[Int.natCast_add,Int.mul_add];simp;omega) oo oo;exact⟨this.1.symm,this.2.symm⟩
 ·rw[if_neg oo];rw[show(y.natAbs:Int)=y by omega,show(x.natAbs:Int) = -x by omega]at e;have:=yaM (x:=x) (y:=y) (q := -((Q+1:Nat):Int)) (r:=((y.natAbs-R:Nat):Int)) (by rw[DN,Int.natCast_add,Int.mul_add];simp;omega) oo oo;exact⟨this.1.symm,this.2.symm⟩
theorem ybr{x y:Int}(hx:Fits x)(hy:Fits y)(hy0:y≠0):Fits (x/y)/\Fits (x%y):=by
 unfold Fits at *;generalize (10:Nat)^200=T at *;refine⟨AS (Int.natAbs_ediv_le_natAbs x y) hx,?_⟩;have h1:=Dk x hy0;have h2:=Int.emod_lt x hy0;omega
def Dig(k:Nat)(z:Int):Prop:=z.natAbs<10^k
theorem Dig.mono{j k:Nat}{z:Int}(h:Dig j z)(hjk:j<=k):Dig k z:=AG h (Bm dd hjk)
theorem Dig.fits{k:Nat}{z:Int}(h:Dig k z)(hk:k<=200):Fits z:=h.mono hk
theorem Fits.dig{z:Int}(h:Fits z):Dig 200 z:=h
theorem Dig.neg{k:Nat}{x:Int}(h:Dig k x):Dig k (-x):=by unfold Dig at *;rwa[Da]
theorem Dig.add{k:Nat}{x y:Int}(h:Dig k x)(h':Dig k y):Dig (k+1) (x+y):=by
 unfold Dig at *;have:=Int.natAbs_add_le x y;rw[Bn];omega
theorem Dig.sub{k:Nat}{x y:Int}(h:Dig k x)(h':Dig k y):Dig (k+1) (x-y):=by
 rw[Int.sub_eq_add_neg];exact h.add h'.neg
theorem Dig.mul{j k:Nat}{x y:Int}(h:Dig j x)(h':Dig k y):Dig (j+k) (x*y):=by
 unfold Dig at *;rw[Int.natAbs_mul,Ef];exact Ec h h'
theorem Dig.of_le{k:Nat}{x y:Int}(h:Dig k y)(hxy:x.natAbs<=y.natAbs):Dig k x:=AS hxy h
theorem Dig.ediv{k:Nat}{x:Int}(h:Dig k x)(y:Int):Dig k (x/y):=h.of_le (Int.natAbs_ediv_le_natAbs x y)
theorem Dig.emod{k:Nat}{y:Int}(x:Int)(h:Dig k y)(hy:y≠0):Dig k (x%y):=h.of_le (by
 have h1:=Dk x hy;have h2:=Int.emod_lt x hy;omega)
theorem kR{k:Nat}{z:Int}(h:z.natAbs<10)(hk:0<k):Dig k z:=by
 have:(10:Nat)^1<=10^k:=Bm dd hk;unfold Dig;omega
theorem zbS{z:Int}(h:jo z):Dig 19 z:=by unfold jo at h;unfold Dig;omega
def zf:List Nat->Nat
 | []=>0
 | d :: l=>d+10*zf l
def Small10(l:List Nat):Prop:=∀ d∈l,d<10
def Norm10(l:List Nat):Prop:=Small10 l/\l.getLast? ≠ some 0
theorem zo:Small10 []:=fun _ h=>by cases h
theorem zad:Norm10 []:=⟨zo,by simp⟩
theorem Small10.cons{d:Nat}{l:List Nat}(h:Small10 (d :: l)):d<10/\Small10 l:=⟨h d (CN ..),fun x hx=>h x (Bx _ hx)⟩
theorem Small10.mk{d:Nat}{l:List Nat}(h:d<10)(hl:Small10 l):Small10 (d :: l):=fun x hx=>by
 rcases Bd.1 hx with rfl|hx
 ·exact h
 ·exact hl x hx
abbrev Du:=@Small10.mk
theorem Small10.append{l m:List Nat}(h:Small10 l)(hm:Small10 m):Small10 (l++m):=fun x hx=>by
 rcases Cm.1 hx with hx|hx
 ·exact h x hx
 ·exact hm x hx
theorem Small10.take{l:List Nat}(h:Small10 l)(k:Nat):Small10 (l.take k):=fun x hx=>h x (Dv hx)
theorem Small10.get{l:List Nat}(h:Small10 l)(k:Nat):l.getD k 0<10:=by
 rw[Ap]
 cases e:l[k]? with
 | none=>simp
 | some x=>exact h x (Bk e)
theorem vbb(l m:List Nat):zf (l++m)=zf l+10^l.length*zf m:=by
 induction l with
 | nil=>simp[zf]
 | cons d l ih =>
  simp only[BM,zf,ih,AE,Bn];rw[CJ,Bq (10^l.length) 10,Br];omega
theorem jM(l:List Nat)(d:Nat):zf (l++[d])=zf l+d*10^l.length:=by
 rw[vbb];simp only[zf,Nat.mul_zero,Dg];rw[Bq]
theorem jW{l:List Nat}(h:Small10 l):zf l<10^l.length:=by
 induction l with
 | nil=>simp[zf]
 | cons d l ih =>
  have h1:=ih h.cons.2;have h2:=h.cons.1;simp only[zf,AE,Bn];omega
theorem kbo(l:List Nat)(k:Nat)(hz:∀ j,k<=j->l.getD j 0=0):zf (l.take k)=zf l:=by
 induction l generalizing k with
 | nil=>simp
 | cons d l ih =>
  cases k with
  | zero =>
   have h0:=hz 0 (Am _);simp only[DC]at h0;have h1:=ih 0 (fun j _=>by have:=hz (j+1) oo;simpa only[By]using this);simp only[AI,zf]at h1 ⊢;omega
  | succ k =>
   have h1:=ih k (fun j hj=>by have:=hz (j+1) oo;simpa only[By]using this);simp only[AB,zf,h1]
theorem vbk{l:List Nat}(h:Small10 l)(k:Nat)(hk:k<=l.length)(hne:0<k->l.getD (k-1) 0≠0):Norm10 (l.take k):=by
 refine⟨h.take k,?_⟩;intro e;rw[List.getLast?_eq_getElem?,Bu,BX hk]at e;rcases Az k with rfl|hp
 ·simp at e
 ·rw[List.getElem?_take_of_lt oo]at e;apply hne hp;rw[Ap,e];rfl
def yu(l:List Nat):List UInt8:=l.reverse.map fun d=>UInt8.ofNat (48+d)
theorem zM(l:List Nat)(d:Nat):yu (l++[d])=UInt8.ofNat (48+d) :: yu l:=by simp[yu]
theorem jbK(l:List Nat)(d:Nat):yu (d :: l)=yu l++[UInt8.ofNat (48+d)]:=by simp[yu]
theorem zaD{l:List Nat}(h:Small10 l):zl (yu l)=zf l:=by
 induction l with
 | nil=>rfl
 | cons d l ih =>
  rw[jbK,vaq,ih h.cons.2,yN d h.cons.1];simp only[zf];omega
theorem qb8{l:List Nat}(h:Small10 l):∀ c∈yu l,jl c=true:=by
 intro c hc;obtain⟨d,hd,rfl⟩:=BR.1 hc;exact yag d (h d (List.mem_reverse.1 hd))
theorem vS{l:List Nat}(h:Norm10 l)(hn:l≠[]):yu l=decDigits (zf l):=by
 rw[<- zaD h.1];apply kaT;refine⟨by simpa[yu]using hn,qb8 h.1,.inr ?_⟩;obtain⟨m,d,rfl⟩:∃ m d,l=m++[d]:=⟨l.dropLast,l.getLast hn,(BK hn).symm⟩
 rw[zM];simp only[List.head?_cons];intro e;injection e with e;have hd:d<10:=h.1 d (by simp);have h1:=congrArg UInt8.toNat e;rw[yN d hd]at h1;have h2:d=0:=by simpa using h1
 exact h.2 (by simp[h2])
theorem Norm10.val_pos{l:List Nat}(h:Norm10 l)(hn:l≠[]):0<zf l:=by
 have h1:=vS h hn;rcases Az (zf l)with e|e
 ·exfalso;rw[e,jm]at h1;obtain⟨m,d,rfl⟩:∃ m d,l=m++[d]:=⟨l.dropLast,l.getLast hn,(BK hn).symm⟩
  rw[zM]at h1;injection h1 with h1 _;have hd:d<10:=h.1 d (by simp);have h3:=congrArg UInt8.toNat h1;rw[yN d hd]at h3;have h2:d=0:=by simpa using h3
  exact h.2 (by simp[h2])
 ·exact e
def S(z:Int):ByteArray:=⟨(itoa z).toArray⟩
def Is(a:ByteArray)(z:Int):Prop:=a.data.toList=itoa z
theorem qq(z:Int):Is (S z) z:=by unfold Is S;simp
theorem Is.eq{a:ByteArray}{z:Int}(h:Is a z):a=S z:=by
 unfold Is at h;unfold S;rw[<- h]
theorem vcs{z:Int}(h:Fits z):(S z).size<=201:=by
 have e:(S z).size=(itoa z).length:=by unfold S ByteArray.size;simp
 rw[e];have h1:=(vO z).2 h;have h2:=vM z;have h3:(itoa z).length<=(jA (itoa z)).length+1:=by
  unfold jA;split
  ·rw[List.length_tail];omega
  ·omega
 rw[h2]at h3;omega
end Go.Proofs.YtdiecekagiledaaGreatDoor
