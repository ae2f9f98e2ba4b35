/- The reference implementation: sums and differences of lists of digits. The. -/
import Derived.Test.YtdiecekagiledaaGreatDoorVOver
import Derived.Test.YtdiecekagiledaaGreatDoorVRefO
set_option maxRecDepth 100000
set_option maxHeartbeats 8000000
namespace Go.Proofs.YtdiecekagiledaaGreatDoor
open Go Go.RowKit Go.Lib Go.Proofs.Tryz
theorem yah(l:List Nat)(k:Nat):zf (l.take (k+1))=zf (l.take k)+l.getD k 0*10^k:=by
 rcases AJ k l.length with h|h
 ·have e:l.take (k+1)=l.take k++[l.getD k 0]:=by
   rw[CU h,Ap,Ay h];rfl
  rw[e,jM,Bu,BX oo]
 ·have e0:l.getD k 0=0:=by rw[Ap,AZ h];rfl
  rw[e0,AY oo,AY oo];simp
theorem kav{l:List Nat}(h:Small10 l)(hn:l≠[])(hv:10^(l.length-1)<=zf l):Norm10 l:=by
 refine⟨h,fun e => ?_⟩;obtain⟨m,d,rfl⟩:∃ m d,l=m++[d]:=⟨l.dropLast,l.getLast hn,(BK hn).symm⟩
 simp at e;subst e;have h1:=jW (fun x hx=>h x (List.mem_append_left _ hx):Small10 m);rw[jM,AQ]at hv;simp at hv;omega
structure PInv(a b:List Nat)(k cr:Nat)(l:List Nat):Prop where
 len:l.length=k
 small:Small10 l
 cr1:cr<=1
 eq:zf l+cr*10^k=zf (a.take k)+zf (b.take k)
 bound:(k<=a.length\/k<=b.length)\/(k=max a.length b.length+1/\cr=0/\10^(k-1)<=zf a+zf b)
theorem PInv.start(a b:List Nat):PInv a b 0 0 []:=⟨rfl,zo,oo,by simp[zf],.inl (.inl oo)⟩
theorem PInv.step{a b:List Nat}{k cr:Nat}{l:List Nat}(h:PInv a b k cr l)(ha:Small10 a)(hb:Small10 b)(hgo:(k<a.length\/k<b.length)\/0<cr) :
  PInv a b (k+1) ((cr+a.getD k 0+b.getD k 0)/10) (l++[(cr+a.getD k 0+b.getD k 0)%10]):=by
 have h1:=ha.get k;have h2:=hb.get k;have ta:=yah a k;have tb:=yah b k;have hc:=h.cr1;refine⟨by rw[AQ,h.len];rfl,h.small.append (Du (BA _ dd) zo),oo,?_,?_⟩
 ·rw[jM,h.len,ta,tb,Bn];have he:=h.eq;generalize a.getD k 0=x at *;generalize b.getD k 0=y at *;have hdm:=Cp (cr+x+y) 10;generalize (cr+x+y)/10=q at *;generalize (cr+x+y)%10=r at *;generalize 10^k=P at *;have e1:(cr+x+y)*P=(10*q+r)*P:=by rw[hdm]
  rw[Bv,Bv,Bv]at e1;have e2:q*(P*10)=10*q*P:=by rw[Bq P 10,<- Br,Bq q 10]
  omega
 ·by_cases hk:k<a.length\/k<b.length
  ·exact .inl oo
  ·right;have hcr:cr=1:=oo
   have e0:a.getD k 0=0:=by rw[Ap,AZ oo];rfl
   have e1:b.getD k 0=0:=by rw[Ap,AZ oo];rfl
   have hkm:k=max a.length b.length:=by
    have:=h.bound;omega
   refine⟨oo,by rw[e0,e1,hcr],?_⟩;have he:=h.eq;rw[AY oo,AY oo,hcr]at he;simp only[Ca];omega
theorem PInv.done{a b:List Nat}{k:Nat}{l:List Nat}(h:PInv a b k 0 l)(ha:Norm10 a)(hb:Norm10 b)(h1:a.length<=k)(h2:b.length<=k):Norm10 l/\zf l=zf a+zf b:=by
 have he:=h.eq;rw[AY h1,AY h2]at he;have hv:zf l=zf a+zf b:=oo
 refine⟨?_,hv⟩;by_cases hl:l=[]
 ·subst hl;exact zad
 ·refine kav h.small hl ?_;have hk:0<k:=by rw[<- h.len];exact DB.2 hl
  rw[hv,h.len];rcases h.bound with hb'|⟨_,_,hb'⟩
  ·rcases hb' with e|e
   ·have ek:a.length=k:=oo
    have:=ha.val_ge (by rintro rfl;simp at ek;omega);rw[ek]at this;omega
   ·have ek:b.length=k:=oo
    have:=hb.val_ge (by rintro rfl;simp at ek;omega);rw[ek]at this;omega
  ·exact hb'
structure MInv(a b:List Nat)(k br:Nat)(l:List Nat):Prop where
 len:l.length=k
 small:Small10 l
 br1:br<=1
 eq:zf l+zf (b.take k)=zf (a.take k)+br*10^k
theorem MInv.start(a b:List Nat):MInv a b 0 0 []:=⟨rfl,zo,oo,by simp[zf]⟩
theorem MInv.step{a b:List Nat}{k br:Nat}{l:List Nat}(h:MInv a b k br l)(d br':Nat)(hd:d<10)(hb':br'<=1)(he':(d:Int)=a.getD k 0-br-b.getD k 0+10*br'):MInv a b (k+1) br' (l++[d]):=by
 have ta:=yah a k;have tb:=yah b k;refine⟨by rw[AQ,h.len];rfl,h.small.append (Du hd zo),hb',?_⟩;rw[jM,h.len,ta,tb,Bn];have he:=h.eq;generalize a.getD k 0=x at *;generalize b.getD k 0=y at *;generalize 10^k=P at *;have e1:d+br+y=x+10*br':=oo
 have e2:(d+br+y)*P=(x+10*br')*P:=by rw[e1]
 rw[Bv,Bv,Bv]at e2;have e3:br'*(P*10)=10*br'*P:=by rw[Bq P 10,<- Br,Bq br' 10]
 omega
theorem MInv.done{a b:List Nat}{br:Nat}{l:List Nat}(h:MInv a b a.length br l)(hab:b.length<=a.length)(hle:zf b<=zf a):zf l=zf a-zf b:=by
 have he:=h.eq;rw[AY (Am _),AY hab]at he;have h1:=jW h.small;rw[h.len]at h1;have h2:=h.br1;rcases Az br with e|e
 ·subst e;omega
 ·have:br=1:=oo
  subst this;omega
def vbL(x:Nat)(w:World)(e:Ending)(w':World):Prop:=∃ A n c,e=.returned (.slice A n c)/\IsD w' A n c x/\Aa w w'/\∀ ad,A=some ad->w.heap.size<=ad.block
theorem qan(A B:En)(n c m d x y:Nat)(w:World)(hx:IsD w A n c x)(hy:IsD w B m d y)(hn:n<=1000)(hm:m<=1000) :
  Calls prog 151 #[.slice A n c,.slice B m d] w (vbL (x+y) w):=by
 obtain⟨i0,hi,hz0,hz1,hz2⟩:=info_parts kE;obtain⟨a,ha,na,va,_⟩:=hx;obtain⟨b,hb,nb,vb,_⟩:=hy;have HA:=hid ha;have HBB:=hid hb;have hal:=hid ha.len;have hbl:=hid hb.len;have HV:Hid (zf a+zf b=x+y):=hid (by rw[va,vb]);clear ha hb va vb;go_enter func151,ntmps151;go_wp2;go_loopw[5,6,7] (fun v cv' i wr=>∃(k cr:Nat) (V:En) (cv:Nat) (r:List Nat),v=.slice V k cv/\cv'=.int .i64 (cr:Int)/\i=.int .i64 (k:Int)/\wr.ownsRow w.heap.size 3 1 (.slice V k cv) k (kq r)/\Aa w wr/\Hid (PInv a b k cr r)/\cr<=1/\k<=1001)
  (fun _ _ i _=>1002-(RowKit.intOf i).toNat)
 case atStart=>exact⟨0,0,none,0,[],rfl,rfl,rfl,World.ownsRow_nil _ _ _ _,Au _ _,PInv.start a b,oo,oo⟩
 case round =>
  obtain⟨k,cr,V,cv,r,rfl,rfl,rfl,hown,hB,hI,hcr,hk⟩:=hrel;have hst:=fun h=>hid (hI.out.step na.1 nb.1 h)
  have hga:=na.1.get k;have hgb:=nb.1.get k;have hk2:∀ _:Hid (PInv a b (k+1) ((cr+a.getD k 0+b.getD k 0)/10) (r++[(cr+a.getD k 0+b.getD k 0)%10])),k+1<=1001:=fun h=>by
   have:=h.out.bound;have h1:=hal.out;have h2:=hbl.out;omega
  by_cases h1:k<n
  ·by_cases h2:k<m
   ·obtain⟨ad,hA,hbl1,hc1⟩:=HA.out.cell k h1;subst hA;have g1:wr.cell? (ad.add k)=some (.int .i64 ((a.getD k 0:Nat):Int)):=(hB.cell (by rw[qi];exact hbl1)).trans hc1;clear hc1 hbl1;obtain⟨ad',hA',hbl2,hc2⟩:=HBB.out.cell k h2;subst hA';have g2:wr.cell? (ad'.add k)=some (.int .i64 ((b.getD k 0:Nat):Int)):=(hB.cell (by rw[qi];exact hbl2)).trans hc2;clear hc2 hbl2;have hst':=hst (.inl (.inl (by have:=hal.out;omega)));have hk':=hk2 hst';clear hst hk2;generalize a.getD k 0=x1 at *;generalize b.getD k 0=y1 at *;obtain⟨N,hN⟩:∃ N,N=cr+x1+y1:=⟨_,rfl⟩
    rw[<- hN]at hst';have hN1:((cr:Int)+(x1:Int)+(y1:Int))=(N:Int):=oo
    have hN2:N<=19:=oo
    have HN:=hid hN;clear hN;have hm10:=hid (show((N:Int)%10).toNat=N%10 by omega);have hd10:=hid (show(N:Int)/10=((N/10:Nat):Int) by omega);go_wp2_with (at_builtin;refine wpList_append_own _ rfl (.tmp 46) (.tmp 49) 146 rfl w.heap.size 3 i0 (.int .i64 0) 1 8 underlying146 hi hz0 hz1 hz2 rfl dd (.slice V k cv) k (kq r) rfl (hown.alloc _) ⟨wr.heap.size,0,none⟩ 1 1 [.int .i64 ((N:Int)%10)] rfl rfl (cell_one_new _ _ _) (by simp[Value.oneCell']) (by unfold maxLen;omega) oo (by have:=hB.size;simp;omega) ?_;intro v' w3 hown3 hgrow3 _;obtain⟨V3,c3,rfl⟩:=zh hown3);go_roundw
    case rel=>exact⟨k+1,N/10,V3,c3,r++[N%10],rfl,by rw[hd10.out],by go_num,by rw[<- hm10.out,<- km _ _ oo];exact hown3,(hB.alloc hB.size _).grown hgrow3 (by have:=hB.size;simp;omega) (jv hown),hst',oo,hk'⟩
    case measure=>exact El
   ·obtain⟨ad,hA,hbl1,hc1⟩:=HA.out.cell k h1;subst hA;have g1:wr.cell? (ad.add k)=some (.int .i64 ((a.getD k 0:Nat):Int)):=(hB.cell (by rw[qi];exact hbl1)).trans hc1;clear hc1 hbl1;have e1:b.getD k 0=0:=by rw[Ap,AZ (by have:=hbl.out;omega)];rfl
    have hst':=hst (.inl (.inl (by have:=hal.out;omega)));have hk':=hk2 hst';clear hst hk2;rw[e1]at hst' hgb;clear e1;generalize a.getD k 0=x1 at *;obtain⟨N,hN⟩:∃ N,N=cr+x1+0:=⟨_,rfl⟩
    rw[<- hN]at hst';have hN1:((cr:Int)+(x1:Int))=(N:Int):=oo
    have hN2:N<=19:=oo
    have HN:=hid hN;clear hN;have hm10:=hid (show((N:Int)%10).toNat=N%10 by omega);have hd10:=hid (show(N:Int)/10=((N/10:Nat):Int) by omega);go_wp2_with (at_builtin;refine wpList_append_own _ rfl (.tmp 46) (.tmp 49) 146 rfl w.heap.size 3 i0 (.int .i64 0) 1 8 underlying146 hi hz0 hz1 hz2 rfl dd (.slice V k cv) k (kq r) rfl (hown.alloc _) ⟨wr.heap.size,0,none⟩ 1 1 [.int .i64 ((N:Int)%10)] rfl rfl (cell_one_new _ _ _) (by simp[Value.oneCell']) (by unfold maxLen;omega) oo (by have:=hB.size;simp;omega) ?_;intro v' w3 hown3 hgrow3 _;obtain⟨V3,c3,rfl⟩:=zh hown3);go_roundw
    case rel=>exact⟨k+1,N/10,V3,c3,r++[N%10],rfl,by rw[hd10.out],by go_num,by rw[<- hm10.out,<- km _ _ oo];exact hown3,(hB.alloc hB.size _).grown hgrow3 (by have:=hB.size;simp;omega) (jv hown),hst',oo,hk'⟩
    case measure=>exact El
  ·by_cases h2:k<m
   ·have e0:a.getD k 0=0:=by rw[Ap,AZ (by have:=hal.out;omega)];rfl
    obtain⟨ad',hA',hbl2,hc2⟩:=HBB.out.cell k h2;subst hA';have g2:wr.cell? (ad'.add k)=some (.int .i64 ((b.getD k 0:Nat):Int)):=(hB.cell (by rw[qi];exact hbl2)).trans hc2;clear hc2 hbl2;have hst':=hst (.inl (.inr (by have:=hbl.out;omega)));have hk':=hk2 hst';clear hst hk2;rw[e0]at hst' hga;clear e0;generalize b.getD k 0=y1 at *;obtain⟨N,hN⟩:∃ N,N=cr+0+y1:=⟨_,rfl⟩
    rw[<- hN]at hst';have hN1:((cr:Int)+(y1:Int))=(N:Int):=oo
    have hN2:N<=19:=oo
    have HN:=hid hN;clear hN;have hm10:=hid (show((N:Int)%10).toNat=N%10 by omega);have hd10:=hid (show(N:Int)/10=((N/10:Nat):Int) by omega);go_wp2_with (at_builtin;refine wpList_append_own _ rfl (.tmp 46) (.tmp 49) 146 rfl w.heap.size 3 i0 (.int .i64 0) 1 8 underlying146 hi hz0 hz1 hz2 rfl dd (.slice V k cv) k (kq r) rfl (hown.alloc _) ⟨wr.heap.size,0,none⟩ 1 1 [.int .i64 ((N:Int)%10)] rfl rfl (cell_one_new _ _ _) (by simp[Value.oneCell']) (by unfold maxLen;omega) oo (by have:=hB.size;simp;omega) ?_;intro v' w3 hown3 hgrow3 _;obtain⟨V3,c3,rfl⟩:=zh hown3);go_roundw
    case rel=>exact⟨k+1,N/10,V3,c3,r++[N%10],rfl,by rw[hd10.out],by go_num,by rw[<- hm10.out,<- km _ _ oo];exact hown3,(hB.alloc hB.size _).grown hgrow3 (by have:=hB.size;simp;omega) (jv hown),hst',oo,hk'⟩
    case measure=>exact El
   ·by_cases hc0:0<cr
    ·have e0:a.getD k 0=0:=by rw[Ap,AZ (by have:=hal.out;omega)];rfl
     have e1:b.getD k 0=0:=by rw[Ap,AZ (by have:=hbl.out;omega)];rfl
     have hst':=hst (.inr hc0);have hk':=hk2 hst';clear hst hk2;rw[e0]at hst' hga;clear e0;rw[e1]at hst' hgb;clear e1;obtain⟨N,hN⟩:∃ N,N=cr+0+0:=⟨_,rfl⟩
     rw[<- hN]at hst';have hN1:((cr:Int))=(N:Int):=oo
     have hN2:N<=19:=oo
     have HN:=hid hN;clear hN;have hcb:decide (0<(cr:Int))=true:=by simp;omega
     have hc9:decide (0<cr)=true:=by simp;omega
     have hm10:=hid (show((N:Int)%10).toNat=N%10 by omega);have hd10:=hid (show(N:Int)/10=((N/10:Nat):Int) by omega);go_wp2_with (at_builtin;refine wpList_append_own _ rfl (.tmp 46) (.tmp 49) 146 rfl w.heap.size 3 i0 (.int .i64 0) 1 8 underlying146 hi hz0 hz1 hz2 rfl dd (.slice V k cv) k (kq r) rfl (hown.alloc _) ⟨wr.heap.size,0,none⟩ 1 1 [.int .i64 ((N:Int)%10)] rfl rfl (cell_one_new _ _ _) (by simp[Value.oneCell']) (by unfold maxLen;omega) oo (by have:=hB.size;simp;omega) ?_;intro v' w3 hown3 hgrow3 _;obtain⟨V3,c3,rfl⟩:=zh hown3);go_roundw
     case rel=>exact⟨k+1,N/10,V3,c3,r++[N%10],rfl,by rw[hd10.out],by go_num,by rw[<- hm10.out,<- km _ _ oo];exact hown3,(hB.alloc hB.size _).grown hgrow3 (by have:=hB.size;simp;omega) (jv hown),hst',oo,hk'⟩
     case measure=>exact El
    ·have hcr0:cr=0:=oo
     subst hcr0;have hfin:=hid (hI.out.done na nb (by have:=hal.out;omega) (by have:=hbl.out;omega));clear hst hk2 hga hgb;go_wp2;go_ret;exact⟨V,k,cv,rfl,⟨r,BJ hown,hfin.out.1,by rw[hfin.out.2];exact HV.out,qS hown⟩,hB,fun ad e=>jv hown _ (by rw[e];rfl)⟩
theorem IsD.len_le{w:World}{A B:En}{n c m d x y:Nat}(hx:IsD w A n c x)(hy:IsD w B m d y)(h:y<=x):m<=n:=by
 obtain⟨a,ha,na,va,_⟩:=hx;obtain⟨b,hb,nb,vb,_⟩:=hy;rw[ha.len,hb.len];rcases AJ a.length b.length with h1|h1
 ·have:=na.lt_of_length nb h1;omega
 ·exact h1
theorem vG(A B:En)(n c m d x y:Nat)(w:World)(hx:IsD w A n c x)(hy:IsD w B m d y)(hn:n<=1000)(hyx:y<=x) :
  Calls prog 152 #[.slice A n c,.slice B m d] w (vbL (x-y) w):=by
 obtain⟨i0,hi,hz0,hz1,hz2⟩:=info_parts kE;have hmn:=hid (hx.len_le hy hyx);obtain⟨a,ha,na,va,_⟩:=hx;obtain⟨b,hb,nb,vb,_⟩:=hy;have HA:=hid ha;have HBB:=hid hb;have hal:=hid ha.len;have hbl:=hid hb.len;have HLE:Hid (zf b<=zf a):=hid (by rw[va,vb];exact hyx);have HV:Hid (zf a-zf b=x-y):=hid (by rw[va,vb]);clear ha hb va vb hyx;go_enter func152,ntmps152;go_wp2;go_loopw[5,6,7] (fun v cv' i wr=>∃(k br:Nat) (V:En) (cv:Nat) (r:List Nat),v=.slice V k cv/\cv'=.int .i64 (br:Int)/\i=.int .i64 (k:Int)/\wr.ownsRow w.heap.size 3 1 (.slice V k cv) k (kq r)/\Aa w wr/\Hid (MInv a b k br r)/\br<=1/\k<=n)
  (fun _ _ i _=>n-(RowKit.intOf i).toNat)
 case atStart=>exact⟨0,0,none,0,[],rfl,rfl,rfl,World.ownsRow_nil _ _ _ _,Au _ _,MInv.start a b,oo,oo⟩
 case round =>
  obtain⟨k,br,V,cv,r,rfl,rfl,rfl,hown,hB,hI,hbr,hk⟩:=hrel;have hga:=na.1.get k;have hgb:=nb.1.get k;by_cases h1:k<n
  ·obtain⟨ad,hA,hbl1,hc1⟩:=HA.out.cell k h1;subst hA;have g1:wr.cell? (ad.add k)=some (.int .i64 ((a.getD k 0:Nat):Int)):=(hB.cell (by rw[qi];exact hbl1)).trans hc1;clear hc1 hbl1;have hst:=fun d br'=>hI.out.step d br'
   by_cases h2:k<m
   ·obtain⟨ad',hA',hbl2,hc2⟩:=HBB.out.cell k h2;subst hA';have g2:wr.cell? (ad'.add k)=some (.int .i64 ((b.getD k 0:Nat):Int)):=(hB.cell (by rw[qi];exact hbl2)).trans hc2;clear hc2 hbl2;generalize a.getD k 0=x1 at *;generalize b.getD k 0=y1 at *;by_cases hng:(x1:Int)-br-y1<0
    ·obtain⟨D,hD⟩:∃ D:Int,D=((x1:Int)-br-y1+10):=⟨_,rfl⟩
     have hst':=hid (hst D.toNat 1 oo oo oo);clear hst;have hD0:0<=D:=oo
     have hD9:D<10:=oo
     have hDe:(x1:Int)-br-y1+10=D:=hD.symm;clear hD;go_wp2_with (at_builtin;refine wpList_append_own _ rfl (.tmp 35) (.tmp 37) 146 rfl w.heap.size 3 i0 (.int .i64 0) 1 8 underlying146 hi hz0 hz1 hz2 rfl dd (.slice V k cv) k (kq r) rfl (hown.alloc _) ⟨wr.heap.size,0,none⟩ 1 1 [.int .i64 (D)] rfl rfl (cell_one_new _ _ _) (by simp[Value.oneCell']) (by unfold maxLen;omega) oo (by have:=hB.size;simp;omega) ?_;intro v' w3 hown3 hgrow3 _;obtain⟨V3,c3,rfl⟩:=zh hown3);go_roundw
     case rel=>exact⟨k+1,1,V3,c3,r++[D.toNat],rfl,rfl,by go_num,by rw[<- km _ _ hD0];exact hown3,(hB.alloc hB.size _).grown hgrow3 (by have:=hB.size;simp;omega) (jv hown),hst',oo,oo⟩
     case measure=>exact El
    ·obtain⟨D,hD⟩:∃ D:Int,D=((x1:Int)-br-y1):=⟨_,rfl⟩
     have hst':=hid (hst D.toNat 0 oo oo oo);clear hst;have hD0:0<=D:=oo
     have hD9:D<10:=oo
     have hDe:(x1:Int)-br-y1=D:=hD.symm;clear hD;go_wp2_with (at_builtin;refine wpList_append_own _ rfl (.tmp 35) (.tmp 37) 146 rfl w.heap.size 3 i0 (.int .i64 0) 1 8 underlying146 hi hz0 hz1 hz2 rfl dd (.slice V k cv) k (kq r) rfl (hown.alloc _) ⟨wr.heap.size,0,none⟩ 1 1 [.int .i64 (D)] rfl rfl (cell_one_new _ _ _) (by simp[Value.oneCell']) (by unfold maxLen;omega) oo (by have:=hB.size;simp;omega) ?_;intro v' w3 hown3 hgrow3 _;obtain⟨V3,c3,rfl⟩:=zh hown3);go_roundw
     case rel=>exact⟨k+1,0,V3,c3,r++[D.toNat],rfl,rfl,by go_num,by rw[<- km _ _ hD0];exact hown3,(hB.alloc hB.size _).grown hgrow3 (by have:=hB.size;simp;omega) (jv hown),hst',oo,oo⟩
     case measure=>exact El
   ·have e1:b.getD k 0=0:=by rw[Ap,AZ (by have:=hbl.out;omega)];rfl
    rw[e1]at hst hgb;clear e1;generalize a.getD k 0=x1 at *;by_cases hng:(x1:Int)-br<0
    ·obtain⟨D,hD⟩:∃ D:Int,D=((x1:Int)-br+10):=⟨_,rfl⟩
     have hst':=hid (hst D.toNat 1 oo oo oo);clear hst;have hD0:0<=D:=oo
     have hD9:D<10:=oo
     have hDe:(x1:Int)-br+10=D:=hD.symm;clear hD;go_wp2_with (at_builtin;refine wpList_append_own _ rfl (.tmp 35) (.tmp 37) 146 rfl w.heap.size 3 i0 (.int .i64 0) 1 8 underlying146 hi hz0 hz1 hz2 rfl dd (.slice V k cv) k (kq r) rfl (hown.alloc _) ⟨wr.heap.size,0,none⟩ 1 1 [.int .i64 (D)] rfl rfl (cell_one_new _ _ _) (by simp[Value.oneCell']) (by unfold maxLen;omega) oo (by have:=hB.size;simp;omega) ?_;intro v' w3 hown3 hgrow3 _;obtain⟨V3,c3,rfl⟩:=zh hown3);go_roundw
     case rel=>exact⟨k+1,1,V3,c3,r++[D.toNat],rfl,rfl,by go_num,by rw[<- km _ _ hD0];exact hown3,(hB.alloc hB.size _).grown hgrow3 (by have:=hB.size;simp;omega) (jv hown),hst',oo,oo⟩
     case measure=>exact El
    ·obtain⟨D,hD⟩:∃ D:Int,D=((x1:Int)-br):=⟨_,rfl⟩
     have hst':=hid (hst D.toNat 0 oo oo oo);clear hst;have hD0:0<=D:=oo
     have hD9:D<10:=oo
     have hDe:(x1:Int)-br=D:=hD.symm;clear hD;go_wp2_with (at_builtin;refine wpList_append_own _ rfl (.tmp 35) (.tmp 37) 146 rfl w.heap.size 3 i0 (.int .i64 0) 1 8 underlying146 hi hz0 hz1 hz2 rfl dd (.slice V k cv) k (kq r) rfl (hown.alloc _) ⟨wr.heap.size,0,none⟩ 1 1 [.int .i64 (D)] rfl rfl (cell_one_new _ _ _) (by simp[Value.oneCell']) (by unfold maxLen;omega) oo (by have:=hB.size;simp;omega) ?_;intro v' w3 hown3 hgrow3 _;obtain⟨V3,c3,rfl⟩:=zh hown3);go_roundw
     case rel=>exact⟨k+1,0,V3,c3,r++[D.toNat],rfl,rfl,by go_num,by rw[<- km _ _ hD0];exact hown3,(hB.alloc hB.size _).grown hgrow3 (by have:=hB.size;simp;omega) (jv hown),hst',oo,oo⟩
     case measure=>exact El
  ·obtain rfl:k=n:=oo
   have hI2:=hI.out;rw[hal.out]at hI2;have hfin:=hid (hI2.done (by have:=hal.out;have:=hbl.out;have:=hmn.out;omega) HLE.out);have hsm:=hI2.small;have hnum:NumV wr V k r:=BJ hown;have hcap:=qS hown;clear hga hgb hI2;go_wp2_with (go_at_call 183;refine(qaz V k cv r _ hnum oo hcap hsm).mono ?_;rintro e w2⟨⟨k',rfl,hk',hN',hnorm,hval⟩,rfl⟩);go_ret;exact⟨V,k',cv,rfl,⟨r.take k',hN',hnorm,by rw[hval,hfin.out];exact HV.out,oo⟩,hB,fun ad e=>jv hown _ (by rw[e];rfl)⟩
theorem zb9(l:List Nat)(j d:Nat)(h:j<l.length):zf (l.set j d)+l.getD j 0*10^j=zf l+d*10^j:=by
 induction l generalizing j with
 | nil=>simp at h
 | cons x l ih =>
  cases j with
  | zero=>simp[zf];omega
  | succ j =>
   have:=ih j (by simpa using h);simp only[Ak,zf,By,Bn];rw[<- Br,<- Br];omega
theorem zaI{l:List Nat}(h:Small10 l)(j:Nat){d:Nat}(hd:d<10):Small10 (l.set j d):=fun x hx=>by
 rcases List.mem_or_eq_of_mem_set hx with hx|rfl
 ·exact h x hx
 ·exact hd
theorem kan(n:Nat):Small10 (List.replicate n 0):=fun x hx=>by
 obtain⟨_,rfl⟩:=Df.1 hx;decide
theorem jaJ(n:Nat):zf (List.replicate n 0)=0:=by
 induction n with
 | zero=>rfl
 | succ n ih=>simp[DA,zf,ih]
structure TOut(a b:List Nat)(i:Nat)(o:List Nat):Prop where
 len:o.length=a.length+b.length
 small:Small10 o
 eq:zf o=zf (a.take i)*zf b
structure TIn(a b:List Nat)(i k cr:Nat)(o:List Nat):Prop where
 len:o.length=a.length+b.length
 small:Small10 o
 cr9:cr<=9
 eq:zf o+cr*10^(i+k)=zf (a.take i)*zf b+a.getD i 0*zf (b.take k)*10^i
 bound:k<=b.length+1
theorem TIn.start{a b:List Nat}{i:Nat}{o:List Nat}(h:TOut a b i o):TIn a b i 0 0 o:=⟨h.len,h.small,oo,by rw[h.eq];simp[zf],oo⟩
theorem TIn.room{a b:List Nat}{i k cr:Nat}{o:List Nat}(h:TIn a b i k cr o)(ha:Small10 a)(hb:Small10 b)(hi:i<a.length)(hcr:0<cr):k<=b.length:=by
 rcases AJ b.length k with hk|hk
 ·exfalso;have he:=h.eq;rw[AY (by omega:b.length<=k)]at he;have h1:=jW (ha.take (i+1));rw[yah,Bu,BX oo]at h1;have h2:=jW hb;have h3:zf (a.take i)*zf b+a.getD i 0*zf b*10^i=(zf (a.take i)+a.getD i 0*10^i)*zf b:=by
   rw[Bv];congr 1;rw[Br,Bq (zf b),<- Br]
  have h4:(zf (a.take i)+a.getD i 0*10^i)*zf b<10^(i+1)*10^b.length:=Ec h1 h2;rw[<- Ef]at h4;have h5:10^(i+1+b.length)<=10^(i+k):=Bm dd oo;have h6:10^(i+k)<=cr*10^(i+k):=CB _ hcr;omega
 ·exact hk
theorem TIn.step{a b:List Nat}{i k cr:Nat}{o:List Nat}(h:TIn a b i k cr o)(ha:Small10 a)(hb:Small10 b)(hi:i<a.length)(hgo:k<b.length\/0<cr) :
  i+k<o.length/\TIn a b i (k+1) ((o.getD (i+k) 0+cr+a.getD i 0*b.getD k 0)/10) (o.set (i+k) ((o.getD (i+k) 0+cr+a.getD i 0*b.getD k 0)%10)):=by
 have hk:k<=b.length:=by
  rcases hgo with hg|hg
  ·omega
  ·exact h.room ha hb hi hg
 have hlt:i+k<o.length:=by rw[h.len];omega
 have h1:=h.small.get (i+k);have h2:=ha.get i;have h3:=hb.get k;have h4:=h.cr9;have h5:a.getD i 0*b.getD k 0<=9*9:=Db oo oo;refine⟨hlt,by rw[List.length_set,h.len],zaI h.small _ (BA _ dd),oo,?_,oo⟩;have he:=h.eq;have hv:=zb9 o (i+k) ((o.getD (i+k) 0+cr+a.getD i 0*b.getD k 0)%10) hlt;rw[yah b k,CJ,Bv];have e1:a.getD i 0*(b.getD k 0*10^k)*10^i=a.getD i 0*b.getD k 0*10^(i+k):=by
  rw[Ef,Bq (10^i),<- Br,<- Br,Br]
 rw[e1,show i+(k+1)=i+k+1 by omega,Bn];generalize a.getD i 0*b.getD k 0=p at *;generalize o.getD (i+k) 0=u at *;have hdm:=Cp (u+cr+p) 10;generalize (u+cr+p)/10=q at *;generalize (u+cr+p)%10=r at *;generalize 10^(i+k)=P at *;have e2:(u+cr+p)*P=(10*q+r)*P:=by rw[hdm]
 rw[Bv,Bv,Bv]at e2;have e3:q*(P*10)=10*q*P:=by rw[Bq P 10,<- Br,Bq q 10]
 omega
theorem TIn.done{a b:List Nat}{i k:Nat}{o:List Nat}(h:TIn a b i k 0 o)(hk:b.length<=k):TOut a b (i+1) o:=by
 have he:=h.eq;rw[AY hk]at he;refine⟨h.len,h.small,?_⟩;rw[yah,Bv,Br (a.getD i 0),Bq (10^i),<- Br];omega
theorem ja6(K:Nat)(hK:K<=1000000)(i:TypeInfo)(hi:prog.info? 3=some i)(hz:i.zero=some (.int .i64 0))(hs:i.size=1)(hb:i.bytes=8)(W:World) :
  (Instr.makeSlice 146 (.int .i64 (K:Int)) (.int .i64 (K:Int))).run prog W=.ok (.slice (some ⟨W.heap.size,0,none⟩) K K) (W.alloc (.cells (kq (List.replicate K 0)).toArray 3)) :=
 vQ (P:=prog) 146 3 i underlying146 hi hz hs hb K hK W
theorem qaQ{W:World}{b:Nat}{t:TypeId}{l:List Nat}(h:W.heap[b]? = some (.cells (kq l).toArray t (0,0))){j:Nat}(hj:j<l.length):W.cell? ⟨b,j,none⟩=some (.int .i64 ((l.getD j 0:Nat):Int)):=by
 rw[cell_of_row _ _ _ _ _ _ h,BU];exact vH l j hj
theorem jaQ{W:World}{b:Nat}{t:TypeId}{l:List Nat}(h:W.heap[b]? = some (.cells (kq l).toArray t (0,0)))(j:Nat):W.frozen? ⟨b,j,none⟩=false:=frozen_of_row _ _ _ _ _ h
theorem qbI(A B:En)(n c m d x y:Nat)(w:World)(hx:IsD w A n c x)(hy:IsD w B m d y)(hn:n<=400)(hm:m<=400) :
  Calls prog 190 #[.slice A n c,.slice B m d] w (vbL (x*y) w):=by
 obtain⟨i0,hi,hz0,hz1,hz2⟩:=info_parts kE;have hmx:prog.follows .mixedOrders=true:=by kernel_rfl
 obtain⟨a,ha,na,va,_⟩:=hx;obtain⟨b,hb,nb,vb,_⟩:=hy;have HA:=hid ha;have HBB:=hid hb;have hal:=hid ha.len;have hbl:=hid hb.len;have HV:Hid (zf a*zf b=x*y):=hid (by rw[va,vb]);obtain⟨L,hL⟩:∃ L,L=n+m:=⟨_,rfl⟩
 have hmk:∀ W:World,(Instr.makeSlice 146 (.int .i64 ((n:Int)+(m:Int))) (.int .i64 ((n:Int)+(m:Int)))).run prog W=.ok (.slice (some ⟨W.heap.size,0,none⟩) L L) (W.alloc (.cells (kq (List.replicate L 0)).toArray 3)):=fun W=>by
  rw[show(n:Int)+(m:Int)=(L:Int) by omega];exact ja6 L oo i0 hi hz0 hz1 hz2 W
 have HL:=hid hL;have hL8:L<=800:=oo
 clear ha hb va vb hL;go_enter func190,ntmps190;go_wp2;clear hmk;go_loopw[6] (fun i wr=>∃(j:Nat) (o:List Nat),i=.int .i64 (j:Int)/\j<=n/\wr.heap[w.heap.size]? = some (.cells (kq o).toArray 3 (0,0))/\Aa w wr/\Hid (TOut a b j o))
  (fun i _=>n-(RowKit.intOf i).toNat)
 case atStart=>exact⟨0,List.replicate L 0,rfl,oo,heap_alloc_new _ _,(Au _ _).alloc (Am _) _,⟨by rw[Do,HL.out,<- hal.out,<- hbl.out],kan _,by rw[jaJ];simp[zf]⟩⟩
 case round =>
  obtain⟨j,o,rfl,hj,harr,hB,hI⟩:=hrel;obtain⟨wo,rfl⟩:∃ wo:World,wo=wr:=⟨_,rfl⟩
  by_cases hjn:j<n
  ·obtain⟨ad,hA,hbl1,hc1⟩:=HA.out.cell j hjn;subst hA;go_wp2;go_loopw[7,8] (fun cv kv wr=>∃(cr k:Nat) (o:List Nat),cv=.int .i64 (cr:Int)/\kv=.int .i64 (k:Int)/\wr.heap[w.heap.size]? = some (.cells (kq o).toArray 3 (0,0))/\Aa w wr/\Hid (TIn a b j k cr o)/\cr<=9/\k<=m+1)
    (fun _ kv _=>m+2-(RowKit.intOf kv).toNat)
   case atStart=>exact⟨0,0,o,rfl,rfl,harr,hB,TIn.start hI.out,oo,oo⟩
   case round =>
    clear harr hB hI;obtain⟨cr,k,o,rfl,rfl,harr,hB,hI,hcr,hk⟩:=hrel;have hst:=fun h=>hI.out.step na.1 nb.1 (by rw[<- hal.out];exact hjn) h
    have hoL:Hid (o.length=L):=hid (by rw[hI.out.len,HL.out,<- hal.out,<- hbl.out]);by_cases hkm:k<m
    ·obtain⟨ad',hA',hbl2,hc2⟩:=HBB.out.cell k hkm;subst hA';obtain⟨hlt,hst'⟩:=hst (.inl (by rw[<- hbl.out];exact hkm));have g1:wr.cell? (ad.add j)=some (.int .i64 ((a.getD j 0:Nat):Int)):=(hB.cell (by rw[qi];exact hbl1)).trans hc1;have g2:wr.cell? (ad'.add k)=some (.int .i64 ((b.getD k 0:Nat):Int)):=(hB.cell (by rw[qi];exact hbl2)).trans hc2;have g3:=qaQ harr hlt;have g4:=jaQ harr (j+k);have hjk:j+k<L:=by have:=hoL.out;omega
     have hjkI:(j:Int)+(k:Int)<(L:Int):=oo
     have b1:=na.1.get j;have b3:=hI.out.small.get (j+k);have b2:=nb.1.get k;have bp:a.getD j 0*b.getD k 0<=9*9:=Db oo oo;obtain⟨P,hP⟩:∃ P,P=a.getD j 0*b.getD k 0:=⟨_,rfl⟩
     have hw:IntKind.i64.wrap (((a.getD j 0:Nat):Int)*((b.getD k 0:Nat):Int))=(P:Int):=by
      have e:((a.getD j 0:Nat):Int)*((b.getD k 0:Nat):Int)=(P:Int):=by rw[hP];simp
      rw[e,IntKind.wrap_i64];omega
     obtain⟨N,hN⟩:∃ N,N=o.getD (j+k) 0+cr+P:=⟨_,rfl⟩
     rw[<- hP,<- hN]at hst';have hs1:IntKind.i64.wrap (((o.getD (j+k) 0:Nat):Int)+(cr:Int))=((o.getD (j+k) 0:Nat):Int)+(cr:Int):=by rw[IntKind.wrap_i64];omega
     have hsum:IntKind.i64.wrap (((o.getD (j+k) 0:Nat):Int)+(cr:Int)+(P:Int))=(N:Int):=by rw[IntKind.wrap_i64];omega
     have hN9:N<=99:=oo
     generalize a.getD j 0=x1 at *;generalize b.getD k 0=y1 at *;generalize o.getD (j+k) 0=u at *;have HST:=hid hst';have hdv:=hid (show(N:Int)/10=((N/10:Nat):Int) by omega);have hmd:=hid (show(N:Int)%10=((N%10:Nat):Int) by omega);have hk1:Hid (k<=m):=hid (by have h:=HST.out.bound;rw[<- hbl.out]at h;omega);clear hst' hN hst hlt;clear hP bp b1 b2 b3;go_wp2;go_quiet (fail);go_wp2;go_roundw
     case rel=>exact⟨N/10,k+1,o.set (j+k) (N%10),by rw[hdv.out],by go_num,by rw[hmd.out];exact kaQ (by exact harr) _ _,(ze hB _).setCell (p:=⟨w.heap.size,j+k,none⟩) (Am _) _,HST,oo,by have:=hk1.out;omega⟩
     case measure=>exact El
    ·by_cases hc0:0<cr
     ·obtain⟨hlt,hst'⟩:=hst (.inr hc0);have hcb:decide (0<(cr:Int))=true:=by simp;omega
      have hcb2:decide (0<cr)=true:=by simp;omega
      have g1:wr.cell? (ad.add j)=some (.int .i64 ((a.getD j 0:Nat):Int)):=(hB.cell (by rw[qi];exact hbl1)).trans hc1;have g3:=qaQ harr hlt;have g4:=jaQ harr (j+k);have hjk:j+k<L:=by have:=hoL.out;omega
      have hjkI:(j:Int)+(k:Int)<(L:Int):=oo
      have b1:=na.1.get j;have b3:=hI.out.small.get (j+k);have e0:b.getD k 0=0:=by rw[Ap,AZ (by have:=hbl.out;omega)];rfl
      rw[e0,Nat.mul_zero,Dg]at hst';obtain⟨N,hN⟩:∃ N,N=o.getD (j+k) 0+cr:=⟨_,rfl⟩
      rw[<- hN]at hst';have hsum:((o.getD (j+k) 0:Nat):Int)+(cr:Int)=(N:Int):=oo
      have hN9:N<=99:=oo
      generalize o.getD (j+k) 0=u at *;clear e0;have HST:=hid hst';have hdv:=hid (show(N:Int)/10=((N/10:Nat):Int) by omega);have hmd:=hid (show(N:Int)%10=((N%10:Nat):Int) by omega);have hk1:Hid (k<=m):=hid (by have h:=HST.out.bound;rw[<- hbl.out]at h;omega);clear hst' hN hst hlt;clear b1 b3;go_wp2;go_roundw
      case rel=>exact⟨N/10,k+1,o.set (j+k) (N%10),by rw[hdv.out],by go_num,by rw[hmd.out];exact kaQ (by exact harr) _ _,hB.setCell (p:=⟨w.heap.size,j+k,none⟩) (Am _) _,HST,oo,by have:=hk1.out;omega⟩
      case measure=>exact El
     ·obtain rfl:cr=0:=oo
      have hdone:=hid (hI.out.done (by rw[<- hbl.out];omega));clear hst;go_wp2;go_roundw
      case rel=>exact⟨j+1,o,by go_num,oo,harr,hB,hdone⟩
      case measure=>exact El
  ·obtain rfl:j=n:=oo
   have ht:=hI.out.eq;rw[AY (by rw[<- hal.out];exact Am _)]at ht;have hfin:=hid ht;have hsm:=hI.out.small;have hoL:o.length=L:=by rw[hI.out.len,HL.out,<- hal.out,<- hbl.out]
   have hnum:NumV wo (some ⟨w.heap.size,0,none⟩) L o:=by have:=ybd harr;rwa[hoL]at this
   clear ht hoL;go_wp2_with (go_at_call 183;refine(qaz (some ⟨w.heap.size,0,none⟩) L L o _ hnum oo (Am _) hsm).mono ?_;rintro e w2⟨⟨k',rfl,hk',hN',hnorm,hval⟩,rfl⟩);go_ret;exact⟨_,k',L,rfl,⟨o.take k',hN',hnorm,by rw[hval,hfin.out];exact HV.out,oo⟩,hB,fun ad e=>by injection e with e;subst e;exact Am _⟩
theorem IsD.unique{w:World}{A:En}{n c d p q:Nat}(h:IsD w A n c p)(k:IsD w A n d q):p=q:=by
 obtain⟨l,h1,h2,rfl,_⟩:=h;obtain⟨m,k1,k2,rfl,_⟩:=k;have hl:=h1.len;have hm:=k1.len;congr 1;refine yaC oo (fun j hj => ?_);obtain⟨ad,e,_,hc⟩:=h1.2 oo;obtain⟨ad',e',_,hc'⟩:=k1.2 oo;rw[e]at e';injection e' with e';subst e';have g1:=hc j _ (vH l j hj);have g2:=hc' j _ (vH m j oo);rw[g1]at g2;injection g2 with g2;injection g2 with _ g2;omega
open Classical in
noncomputable def zcV (w:World) (v:Value):Nat:=if h:∃ q A n c,v=.slice A n c/\IsD w A n c q then h.choose else 0
theorem zaW{w:World}{A:En}{n c q:Nat}(h:IsD w A n c q):zcV w (.slice A n c)=q:=by
 have hx:∃ q A' n' c',Value.slice A n c=.slice A' n' c'/\IsD w A' n' c' q:=⟨q,A,n,c,rfl,h⟩
 unfold zcV;rw[dif_pos hx];obtain⟨A',n',c',e,h'⟩:=hx.choose_spec;injection e with e1 e2 e3;subst e1 e2;exact h'.unique h
theorem IsD.setOff{W:World}{A:En}{n c x:Nat}(h:IsD W A n c x){p:Addr}(hp:∀ ad,A=some ad->ad.block≠p.block)(u:Value):IsD (W.setCell p u) A n c x:=by
 obtain⟨l,h1,h2,h3,h4⟩:=h;refine⟨l,⟨h1.1,fun hn => ?_⟩,h2,h3,h4⟩;obtain⟨ad,e,hlt,hc⟩:=h1.2 hn;refine⟨ad,e,by simpa[World.setCell]using hlt,fun j u' hu => ?_⟩;rw[World.cell?_setCell_other W _ _ u (fun e'=>hp ad e (by rw[e',qi]))];exact hc j u' hu
theorem kaS(l:List Nat)(i:Nat)(h:i<l.length):zf (l.drop i)=l.getD i 0+10*zf (l.drop (i+1)):=by
 rw[zal l i h];rfl
structure DOut(a q:List Nat)(m y R:Nat):Prop where
 len:q.length=a.length
 small:Small10 q
 low:∀ j,j<m->q.getD j 0=0
 lt:R<y
 eq:zf (a.drop m)=zf (q.drop m)*y+R
structure DIn(a q:List Nat)(i y R:Nat):Prop where
 len:q.length=a.length
 small:Small10 q
 low:∀ j,j<i->q.getD j 0=0
 bnd:R+q.getD i 0*y<10*y
 eq:zf (a.drop i)=zf (q.drop i)*y+R
theorem DOut.start(a:List Nat)(y:Nat)(hy:0<y):DOut a (List.replicate a.length 0) a.length y 0 :=
 ⟨by simp,kan _,fun j hj=>by rw[Ap,CY,if_pos hj];rfl,hy,by simp[zf]⟩
theorem DOut.open_{a q:List Nat}{i y R:Nat}(h:DOut a q (i+1) y R)(ha:Small10 a)(hi:i<a.length):DIn a q i y (a.getD i 0+10*R):=by
 have h1:=ha.get i;have h2:=h.lt;have h0:=h.low i oo;refine⟨h.len,h.small,fun j hj=>h.low j oo,by rw[h0];omega,?_⟩;rw[kaS a i hi,kaS q i (by rw[h.len];exact hi),h0,h.eq];rw[Bj,CJ,<- Br];omega
theorem DIn.step{a q:List Nat}{i y R:Nat}(h:DIn a q i y R)(hi:i<a.length)(hR:y<=R):DIn a (q.set i (q.getD i 0+1)) i y (R-y)/\q.getD i 0+1<=9:=by
 have hb:=h.bnd;have hlt:i<q.length:=by rw[h.len];exact hi
 have h9:q.getD i 0+1<=9:=by
  rcases AJ 9 (q.getD i 0+1)with h1|h1
  ·exfalso;have:9*y<=q.getD i 0*y:=BC _ oo;omega
  ·exact h1
 have e1:(q.set i (q.getD i 0+1)).getD i 0=q.getD i 0+1:=by
  rw[Ap,List.getElem?_set_self hlt];rfl
 have e2:(q.set i (q.getD i 0+1)).drop (i+1)=q.drop (i+1):=by
  rw[List.drop_set];simp
 refine⟨⟨by rw[List.length_set,h.len],zaI h.small _ oo,fun j hj => ?_,?_,?_⟩,h9⟩
 ·rw[Ap,List.getElem?_set_ne oo,<- Ap];exact h.low j hj
 ·rw[e1,Bv];omega
 ·rw[kaS (q.set i (q.getD i 0+1)) i (by rw[List.length_set];exact hlt),e1,e2,h.eq,kaS q i hlt];obtain⟨Z,hZ⟩:∃ Z,Z=q.getD i 0+10*zf (q.drop (i+1)):=⟨_,rfl⟩
  rw[show q.getD i 0+1+10*zf (q.drop (i+1))=Z+1 by omega,<- hZ,Bv,Nat.one_mul];omega
theorem DIn.close{a q:List Nat}{i y R:Nat}(h:DIn a q i y R)(hR:R<y):DOut a q i y R:=⟨h.len,h.small,h.low,hR,h.eq⟩
theorem DOut.done{a q:List Nat}{y R:Nat}(h:DOut a q 0 y R):zf q=zf a/y/\R=zf a%y:=by
 have:=h.eq;rw[AH,AH]at this;exact kaC this h.lt
def yda(x y:Nat)(w:World)(e:Ending)(w':World):Prop:=∃ Aq nq cq Ar nr cr,e=.returned (.tuple #[.slice Aq nq cq,.slice Ar nr cr])/\IsD w' Aq nq cq (x/y)/\IsD w' Ar nr cr (x%y)/\Aa w w'
theorem yA(A B:En)(n c m d x y:Nat)(w:World)(hx:IsD w A n c x)(hy:IsD w B m d y)(hn:n<=200)(hm:m<=200)(hy0:0<y) :
  Calls prog 143 #[.slice A n c,.slice B m d] w (yda x y w):=by
 obtain⟨i0,hi,hz0,hz1,hz2⟩:=info_parts kE;obtain⟨a,ha,na,va,_⟩:=hx;have HA:=hid ha;have HY:=hid hy;have hal:=hid ha.len;have hyl:Hid (10*y<10^201):=hid (by
  obtain⟨b,hb,nb,vb,_⟩:=hy;have h1:=jW nb.1;rw[vb,<- hb.len]at h1;have h2:(10:Nat)^m<=10^200:=Bm dd hm;rw[show(201:Nat)=200+1 from rfl,Bn];generalize (10:Nat)^200=T at *;omega)
 have hmk:=fun W=>ja6 n oo i0 hi hz0 hz1 hz2 W
 clear ha hy;go_enter func143,ntmps143;go_wp2;clear hmk;go_loopw[7,8] (fun rv iv wr=>∃(xx:Int) (k:Nat) (Ar:En) (nr cr R:Nat) (q:List Nat),Hid (xx+1=k)/\k<=n /\ -1<=xx/\xx<n/\iv=.int .i64 xx/\rv=.slice Ar nr cr/\IsD wr Ar nr cr R/\Hid (∀ ad,Ar=some ad->w.heap.size<ad.block)/\wr.heap[w.heap.size]? = some (.cells (kq q).toArray 3 (0,0))/\Aa w wr/\Hid (DOut a q k y R))
  (fun _ iv _=>(RowKit.intOf iv+1).toNat)
 case atStart=>exact⟨(n:Int)-1,n,none,0,0,0,List.replicate n 0,by show _=_;omega,Am _,oo,oo,rfl,rfl,⟨[],NumV.nil,zad,rfl,Am _⟩,(fun ad e=>by cases e),heap_alloc_new _ _,(Au _ _).alloc (Am _) _,by have:=DOut.start a y hy0;rwa[<- hal.out]at this⟩
 case round =>
  obtain⟨xx,k,Ar,nr,cr,R,q,hxk,hkn,hx1,hxn,rfl,rfl,hR,hAr,harr,hB,hI⟩:=hrel;obtain⟨wo,rfl⟩:∃ wo:World,wo=wr:=⟨_,rfl⟩
  have hsz:w.heap.size<wo.heap.size:=(Ag.1 harr).1;by_cases hxp:0<=xx
  ·obtain⟨i,rfl⟩:∃ i:Nat,xx=(i:Int):=⟨xx.toNat,oo⟩
   obtain rfl:k=i+1:=by have:=hxk.out;omega
   have hin:i<n:=oo
   obtain⟨ad,hA,hbl1,hc1⟩:=HA.out.cell i hin;subst hA;have g1:wo.cell? (ad.add i)=some (.int .i64 ((a.getD i 0:Nat):Int)):=(hB.cell (by rw[qi];exact hbl1)).trans hc1;have hnr:nr<=201:=hR.le (by have:=hI.out.lt;have:=hyl.out;omega);obtain⟨rl,hrl1,hrl2,hrl3,hrl4⟩:=hR;have hlit:=World.ownsRow_lit (base:=wo.heap.size) (e:=3) (size:=1) wo #[.int .i64 ((a.getD i 0:Nat):Int)] 1 (Am _) (by unfold maxLen;omega) rfl;have hsrc:Reads (wo.alloc (.cells #[.int .i64 ((a.getD i 0:Nat):Int)] 3)) wo.heap.size 1 Ar nr (kq rl):=hrl1.alloc (Am _) _;have hai:=na.1.get i;have hopen:=hid (hI.out.open_ na.1 (by rw[<- hal.out];exact hin));have hrv:Hid (zf (a.getD i 0 :: rl)=a.getD i 0+10*R):=hid (by simp only[zf];rw[hrl3]);clear hc1 hbl1 hxp hrl3 hrl4 hrl1 hI;generalize a.getD i 0=x1 at *;have hsm:Small10 (x1 :: rl):=Du hai hrl2.1;clear hrl2;go_wp2_with (first
    | (at_builtin;refine jr _ rfl (.tmp 23) (.tmp 24) 146 rfl wo.heap.size 3 i0 (.int .i64 0) 1 8 underlying146 hi hz0 hz1 hz2 rfl dd (.slice (some ⟨wo.heap.size,0,none⟩) 1 1) 1 [.int .i64 (x1:Int)] rfl hlit wo.heap.size Ar nr cr (kq rl) rfl hsrc (yaT rl) (by unfold maxLen;omega) oo (by simp) ?_;intro v' W1 hown1 hgrow1;obtain⟨A1,c1,rfl⟩:=zh hown1;have hbW1:Below wo.heap.size wo W1:=((Au _ _).alloc (Am _) _).grown hgrow1 (by simp) (fun g hg=>by simp[Value.ownBlock]at hg;omega);have hN1:NumV W1 A1 (1+nr) (x1 :: rl):=(BJ hown1:Reads W1 W1.heap.size 1 A1 (1+nr) _);have hcap1:=qS hown1)
    | (go_at_call 183;refine(qaz A1 (1+nr) c1 (x1 :: rl) _ hN1 oo hcap1 hsm).mono ?_;rintro e Wt⟨⟨kt,rfl,hkt,hNt,hnt,hvt⟩,rfl⟩))
   have hR0:IsD Wt A1 kt c1 (x1+10*R):=⟨_,hNt,hnt,by rw[hvt,hrv.out],oo⟩
   have hA1:Hid (∀ ad,A1=some ad->w.heap.size<ad.block):=hid (fun ad e=>by have:=jv hown1 ad.block (by rw[e];rfl);omega);have harr1:Wt.heap[w.heap.size]? = some (.cells (kq q).toArray 3 (0,0)):=(hbW1.block _ hsz).trans harr;have hB1:=hB.trans (hbW1.mono hB.size);clear hN1 hNt hnt hvt hown1 hgrow1 hlit hsrc harr hbW1 hkt g1;go_loopw[7] (fun rv wr=>∃(Ar:En) (nr cr R:Nat) (q:List Nat),rv=.slice Ar nr cr/\IsD wr Ar nr cr R/\Hid (∀ ad,Ar=some ad->w.heap.size<ad.block)/\wr.heap[w.heap.size]? = some (.cells (kq q).toArray 3 (0,0))/\Aa w wr/\Hid (DIn a q i y R))
    (fun rv wr=>zcV wr rv)
   case atStart=>exact⟨A1,kt,c1,_,q,rfl,hR0,hA1,harr1,hB1,hopen⟩
   case round =>
    clear hR0 hA1 harr1 hB1 hopen hB hAr;obtain⟨Ar,nr,cr,R,q,rfl,hR,hAr,harr,hB,hI⟩:=hrel;have hnr:nr<=201:=hR.le (by have:=hI.out.bnd;have:=hyl.out;omega);have hYr:=HY.out.below hB;have hszr:w.heap.size<wr.heap.size:=(Ag.1 harr).1;by_cases hge:y<=R
    ·have hcz:0<=kp (R:Int) (y:Int):=by unfold kp;split<;>(try split)<;>omega
     obtain⟨hst,h9⟩:=hI.out.step (by rw[<- hal.out];exact hin) hge;obtain⟨tq,htq⟩:∃ t,t=q.getD i 0:=⟨_,rfl⟩
     rw[<- htq]at hst h9;have HTQ:=hid htq;clear htq;have HST:=hid hst;have hqL:i<q.length:=by rw[hI.out.len,<- hal.out];exact hin
     have HGE:=hid hge;clear hst hge;go_wp2_with (go_at_call 142;refine(yD Ar B nr cr m d R y _ hR hYr oo oo).mono ?_;rintro e w3⟨rfl,hb3⟩);have harr3:w3.heap[w.heap.size]? = some (.cells (kq q).toArray 3 (0,0)):=(hb3.block _ hszr).trans harr;have hB3:=hB.trans (hb3.mono hB.size);have hR3:=hR.below hb3;have hnumR:Hid (zcV wr (.slice Ar nr cr)=R):=hid (zaW hR);have hY3:=hYr.below hb3;clear harr hB hR hYr;go_wp2_with (go_at_call 152;refine(vG Ar B nr cr m d R y _ hR3 hY3 oo HGE.out).mono ?_;rintro e w4⟨A4,n4,c4,rfl,hR4,hb4,hA4⟩;have hsz3:w.heap.size<w3.heap.size:=(Ag.1 harr3).1;have harr4:w4.heap[w.heap.size]? = some (.cells (kq q).toArray 3 (0,0)):=(hb4.block _ hsz3).trans harr3;have hB4:=hB3.trans (hb4.mono hB3.size);have g3:=qaQ harr4 hqL;rw[<- HTQ.out]at g3;have g4:=jaQ harr4 i;have HA4:Hid (∀ ad,A4=some ad->w.heap.size<ad.block):=hid (fun ad e=>AG hsz3 (hA4 ad e));clear hA4);go_roundw
     case rel=>exact⟨A4,n4,c4,R-y,q.set i (tq+1),rfl,hR4.setOff (fun ad e=>by have:=HA4.out ad e;show ad.block≠w.heap.size;omega) _,HA4,by rw[show(tq:Int)+1=((tq+1:Nat):Int) by omega];exact kaQ harr4 _ _,hB4.setCell (p:=⟨w.heap.size,i,none⟩) (Am _) _,HST⟩
     case measure=>rw[zaW (hR4.setOff (p:=⟨w.heap.size,i,none⟩) (fun ad e=>by have:=HA4.out ad e;show ad.block≠w.heap.size;omega) _),hnumR.out];have:=HGE.out;omega
    ·have hcz:kp (R:Int) (y:Int)<0:=by unfold kp;split<;>(try split)<;>omega
     have hcl:=hid (hI.out.close oo);clear hge;go_wp2_with (go_at_call 142;refine(yD Ar B nr cr m d R y _ hR hYr oo oo).mono ?_;rintro e w3⟨rfl,hb3⟩);go_roundw
     case rel=>exact⟨(i:Int)-1,i,Ar,nr,cr,R,q,by show _=_;omega,oo,oo,oo,rfl,rfl,hR.below hb3,hAr,(hb3.block _ hszr).trans harr,hB.trans (hb3.mono hB.size),hcl⟩
     case measure=>simp[RowKit.intOf]
  ·have hx':xx<0:=oo
   obtain rfl:k=0:=by have:=hxk.out;omega
   have hfin:=hid hI.out.done;have hsm:=hI.out.small;have hqn:q.length=n:=by rw[hI.out.len,hal.out]
   have hnum:NumV wo (some ⟨w.heap.size,0,none⟩) n q:=by have:=ybd harr;rwa[hqn]at this
   clear hxp hqn;go_wp2_with (go_at_call 183;refine(qaz (some ⟨w.heap.size,0,none⟩) n n q _ hnum oo (Am _) hsm).mono ?_;rintro e w2⟨⟨k',rfl,hk',hN',hnorm,hval⟩,rfl⟩);go_ret2;exact⟨_,k',n,Ar,nr,cr,rfl,⟨q.take k',hN',hnorm,by rw[hval,hfin.out.1,va],oo⟩,by rw[<- va,<- hfin.out.2];exact hR,hB⟩
end Go.Proofs.YtdiecekagiledaaGreatDoor
