/- The reference implementation: trim, text and Made. -/
import Derived.Deep.DeepMust
import Derived.Deep.RegionHeld3
import Derived.Lib.IndexBytes
import Derived.Lib.UnsafeStr
import Derived.Test.YtdiecekagiledaaGreatDoorVCmp
set_option maxRecDepth 100000
set_option maxHeartbeats 2000000
namespace Go.Proofs.YtdiecekagiledaaGreatDoor
open Go Go.RowKit Go.Lib Go.Proofs.Tryz
theorem qbb{l:List Nat}{k:Nat}:(0<k->l.getD (k-1) 0≠0)->(∀ j,k<=j->l.getD j 0=0)->Small10 l->k<=l.length->Norm10 (l.take k)/\zf (l.take k)=zf l :=
 fun h1 h2 h3 h4=>⟨vbk h3 k h4 h1,kbo l k h2⟩
theorem qaz(A:En)(n c:Nat)(l:List Nat)(w:World)(h:NumV w A n l)(hn:n<=1000000)(hcap:n<=c)(hs:Small10 l) :
  Calls prog 183 #[.slice A n c] w fun e w'=>(∃ k,e=.returned (.slice A k c)/\k<=n/\NumV w A k (l.take k)/\Norm10 (l.take k)/\zf (l.take k)=zf l)/\w'=w:=by
 have hl:=h.len;have H:=hid h;have HL:=hid hl;clear hl h;go_enter func183,ntmps183;go_wp2;go_loop[0] (fun v=>∃ k:Nat,k<=n/\v=.slice A k c/\Hid (∀ j,k<=j->l.getD j 0=0)) (fun v=>match v with | .slice _ k _=>k|_=>0)
 case atStart=>exact⟨n,Am _,rfl,fun j hj=>by rw[Ap,AZ (by have:=HL.out;omega)];rfl⟩
 case round =>
  obtain⟨k,hk,rfl,hz⟩:=hrel;rcases Az k with rfl|hp
  ·go_wp2;go_ret;obtain⟨h1,h2⟩:=qbb (l:=l) (k:=0) (fun h=>absurd h oo) hz hs oo;exact⟨⟨0,rfl,oo,H.out.take oo,h1,h2⟩,rfl⟩
  ·obtain⟨ad,hA,_,hc⟩:=H.out.cell (k-1) oo;subst hA;by_cases h0:l.getD (k-1) 0=0
   ·rw[h0]at hc;have HZ:=hid h0;clear h0;go_wp2;go_round
    case rel=>exact⟨k-1,oo,by first|rfl|go_num,fun j hj=>by
     rcases Dc hj with e|e
     ·rw[<- e];exact HZ.out
     ·exact hz j oo⟩
    case measure=>simp;try omega
   ·have hb:((l.getD (k-1) 0:Nat):Int)≠0:=oo
    generalize hg:((l.getD (k-1) 0:Nat):Int)=d at *;have hd:(d==0)=false:=by simpa using hb
    have HB:=hid h0;have HG:=hid hg;clear h0 hg hb;go_wp2;go_ret;obtain⟨h1,h2⟩:=qbb (l:=l) (k:=k) (fun _=>HB.out) hz hs (by have:=HL.out;omega);exact⟨⟨k,rfl,hk,H.out.take hk,h1,h2⟩,rfl⟩
theorem jce:(prog.info? 5).map (fun i=>(i.zero,i.size,i.bytes))=some (some (.int .u8 0),1,1):=by kernel_rfl
theorem jae(l:List UInt8)(d:Nat)(hd:d<256):byteCells l++[.int .u8 (d:Int)]=byteCells (l++[UInt8.ofNat d]):=by
 unfold byteCells;rw[List.map_append];congr 1;simp[Nat.mod_eq_of_lt hd]
theorem qbr{w:World}{base n c:Nat}{A:En}{bs:List UInt8}(h:w.ownsRow base 5 1 (.slice A n c) n (byteCells bs))(hn:0<n) :
  (convert 194 9 (.slice A n c)).run prog w=.ok (.string ⟨bs.toArray⟩) w:=by
 obtain⟨g,cap,hv,_,hlt⟩:=h.form hn;have hA:A=some ⟨g,0,none⟩:=by injection hv
 subst hA;have hl:bs.length=n:=by have:=h.1;simpa[byteCells]using this
 have hc:=h.cells (g:=g) rfl;have:=run_convert_bytes_arg (P:=prog) w 194 5 underlying194 underlying5 g 0 n c (bs.map fun b=>(b.toNat:Int)) (by simpa using hl) (fun i hi=>by
  have h1:(byteCells bs)[i]? = some (.int .u8 ((bs.map fun b=>(b.toNat:Int)).getD i 0)):=by
   unfold byteCells;rw[Dq,Ap,Dq,Ay oo];rfl
  have h2:=hc i _ h1;have h3:(⟨g,0,none⟩:Addr).add i=⟨g,0+i,none⟩:=by unfold Addr.add;split<;>simp_all
  rwa[h3]at h2) 9 underlying9
 have hs:strOfNums (bs.map fun b=>(b.toNat:Int))=⟨bs.toArray⟩:=by unfold strOfNums;simp[Function.comp_def]
 rw[this,hs]
def tx(neg:Bool)(l:List Nat):List UInt8:=if l=[] then [48] else if neg then 45 :: yu l else yu l
def pre(neg:Bool):List UInt8:=if neg then [45] else []
theorem kbb(neg:Bool){l:List Nat}(h:l≠[]):tx neg l=pre neg++yu l:=by unfold tx pre;rw[if_neg h];cases neg<;>simp
theorem jaO(l:List Nat)(m:Nat)(hm:m<l.length):(yu l).take (l.length-m)=(yu l).take (l.length-(m+1))++[UInt8.ofNat (48+l.getD m 0)]:=by
 have hlen:(yu l).length=l.length:=by simp[yu]
 rw[show l.length-m=(l.length-(m+1))+1 by omega,CU oo];congr 2;unfold yu;rw[List.getElem_map,List.getElem_reverse,Ap,Ay hm];simp only[Option.getD_some];congr 3;omega
theorem zb8(neg:Bool){l:List Nat}(h:Norm10 l):tx neg l=itoa (if neg then -(zf l:Int) else zf l):=by
 by_cases hn:l=[]
 ·subst hn;unfold tx;rw[if_pos rfl]
  cases neg<;>simp[zf]<;>(rw[show(0:Int)=((0:Nat):Int) from rfl,vE,jm])
 ·unfold tx;rw[if_neg hn,vS h hn]
  cases neg
  ·simp[vE]
  ·simp[vag _ (h.val_pos hn)]
def jcL(neg:Bool)(n:Nat)(l:List Nat)(w:World)(e:Ending)(w':World):Prop:=e=.returned (.tuple #[.string ⟨(tx neg l).toArray⟩,.bool (decide ((n:Int)<=200))])/\Aa w w'
theorem vb5(neg:Bool)(A:En)(n c:Nat)(l:List Nat)(w:World)(h:NumV w A n l)(hn:n<=1000000)(hs:Small10 l) :
  Calls prog 153 #[.bool neg,.slice A n c] w (jcL neg n l w):=by
 have hl:=hid h.len;obtain⟨i0,hi,hz0,hz1,hz2⟩:=info_parts jce;rcases Az n with h0|h0
 ·subst h0;have hl0:l=[]:=Bc.1 (by have:=hl.out;omega);subst hl0;go_enter func153,ntmps153;go_wp2;go_ret2;exact⟨rfl,Au _ _⟩
 ·have hne:((n:Int)==0)=false:=by simp;omega
  have hl1:l≠[]:=by intro e;rw[e]at hl;have:=hl.out;simp at this;omega
  have H:=hid h;have HL1:=hid hl1;clear h hl1
  cases neg
  ·go_enter func153,ntmps153;go_wp2;go_loopw[6,7] (fun v i wr=>∃(x:Int) (m k:Nat) (B:En) (c':Nat),Hid (x+1=m)/\m<=n/\k+m<=n+1 /\ -1<=x/\x<n/\i=.int .i64 x/\v=.slice B k c'/\wr.ownsRow w.heap.size 5 1 (.slice B k c') k (byteCells (pre false++(yu l).take (n-m)))/\Aa w wr)
    (fun _ i _=>(RowKit.intOf i+1).toNat)
   case atStart=>exact⟨(n:Int)-1,n,0,none,0,by show _=_;omega,Am _,oo,oo,oo,rfl,rfl,by rw[Ei];exact World.ownsRow_nil _ _ _ _,Au _ _⟩
   case round =>
    obtain⟨x,m,k,B,c',hxm,hmn,hkm,hx1,hxn,rfl,rfl,hown,hB⟩:=hrel;by_cases hx:0<=x
    ·obtain⟨q,rfl⟩:∃ q:Nat,x=(q:Int):=⟨x.toNat,oo⟩
     obtain rfl:m=q+1:=by have:=hxm.out;omega
     have hqn:q<n:=oo
     obtain⟨ad,hA,hblt,hcw⟩:=H.out.cell q hqn;subst hA;have hcell:wr.cell? (ad.add q)=some (.int .i64 ((l.getD q 0:Nat):Int)):=(hB.cell (by rw[qi];exact hblt)).trans hcw;have hd:l.getD q 0<10:=hs.get q;have hstep:=hid (jaO l q (by have:=hl.out;omega));generalize l.getD q 0=d at *;have hd1:(d:Int)<10:=oo
     have hd0:(0:Int)<=d:=oo
     clear hcw hblt hx;go_wp2_with (at_builtin;refine wpList_append_own _ rfl (.tmp 22) (.tmp 29) 194 rfl w.heap.size 5 i0 (.int .u8 0) 1 1 underlying194 hi hz0 hz1 hz2 rfl dd (.slice B k c') k _ rfl (hown.alloc _) ⟨wr.heap.size,0,none⟩ 1 1 [.int .u8 (48+d)] rfl rfl (cell_one_new _ _ _) (by simp[Value.oneCell']) (by unfold maxLen;omega) oo (by have:=hB.size;simp;omega) ?_;intro v' w3 hown3 hgrow3 _;obtain⟨A3,c3,rfl⟩:=zh hown3);have hcast:((48+d:Nat):Int)=48+(d:Int):=oo
     have hB3:=(hB.alloc hB.size _).grown hgrow3 (by have:=hB.size;simp;omega) (jv hown);have hown4:w3.ownsRow w.heap.size 5 1 (.slice A3 (k+1) c3) (k+1) (byteCells (pre false++(yu l).take (n-q))):=by
      have hq:=hstep.out;rw[<- hl.out]at hq;rw[hq,<- List.append_assoc,<- jae _ _ oo,hcast];exact hown3
     go_roundw
     case rel=>exact⟨(q:Int)-1,q,k+1,A3,c3,by show _=_;omega,oo,oo,oo,oo,rfl,rfl,hown4,hB3⟩
     case measure=>simp[RowKit.intOf]
    ·have hx':x<0:=oo
     obtain rfl:m=0:=by have:=hxm.out;omega
     have ht:(yu l).take (n-0)=yu l:=AY (by have:=hl.out;simp[yu];omega);rw[ht,<- kbb false HL1.out]at hown;have hk0:0<k:=by
      have h1:=hown.1;have h2:0<(tx false l).length:=by rw[kbb _ HL1.out];have:=hl.out;simp[yu];omega
      simp[byteCells]at h1;omega
     have hcv:=qbr hown hk0;clear ht hk0 hx;go_wp2;go_ret2;exact⟨rfl,hB⟩
  ·go_enter func153,ntmps153;go_wp2_with (at_builtin;refine wpList_append_own _ rfl (.tmp 12) (.tmp 13) 194 rfl w.heap.size 5 i0 (.int .u8 0) 1 1 underlying194 hi hz0 hz1 hz2 rfl dd (.slice none 0 0) 0 [] rfl ((World.ownsRow_nil w _ _ _).alloc _) ⟨w.heap.size,0,none⟩ 1 1 [.int .u8 45] rfl rfl (cell_one_new _ _ _) (by simp[Value.oneCell']) (by unfold maxLen;omega) oo (by simp) ?_;intro v' w2 hown2 hgrow2 _;obtain⟨A2,c2,rfl⟩:=zh hown2);go_loopw[6,7] (fun v i wr=>∃(x:Int) (m k:Nat) (B:En) (c':Nat),Hid (x+1=m)/\m<=n/\k+m<=n+1 /\ -1<=x/\x<n/\i=.int .i64 x/\v=.slice B k c'/\wr.ownsRow w.heap.size 5 1 (.slice B k c') k (byteCells (pre true++(yu l).take (n-m)))/\Aa w wr)
    (fun _ i _=>(RowKit.intOf i+1).toNat)
   case atStart=>exact⟨(n:Int)-1,n,1,A2,c2,by show _=_;omega,Am _,oo,oo,oo,rfl,rfl,by rw[Ei];exact hown2,((Au _ _).alloc (Am _) _).grown hgrow2 (by simp) (by simp[Value.ownBlock])⟩
   case round =>
    obtain⟨x,m,k,B,c',hxm,hmn,hkm,hx1,hxn,rfl,rfl,hown,hB⟩:=hrel;by_cases hx:0<=x
    ·obtain⟨q,rfl⟩:∃ q:Nat,x=(q:Int):=⟨x.toNat,oo⟩
     obtain rfl:m=q+1:=by have:=hxm.out;omega
     have hqn:q<n:=oo
     obtain⟨ad,hA,hblt,hcw⟩:=H.out.cell q hqn;subst hA;have hcell:wr.cell? (ad.add q)=some (.int .i64 ((l.getD q 0:Nat):Int)):=(hB.cell (by rw[qi];exact hblt)).trans hcw;have hd:l.getD q 0<10:=hs.get q;have hstep:=hid (jaO l q (by have:=hl.out;omega));generalize l.getD q 0=d at *;have hd1:(d:Int)<10:=oo
     have hd0:(0:Int)<=d:=oo
     clear hcw hblt hx;go_wp2_with (at_builtin;refine wpList_append_own _ rfl (.tmp 22) (.tmp 29) 194 rfl w.heap.size 5 i0 (.int .u8 0) 1 1 underlying194 hi hz0 hz1 hz2 rfl dd (.slice B k c') k _ rfl (hown.alloc _) ⟨wr.heap.size,0,none⟩ 1 1 [.int .u8 (48+d)] rfl rfl (cell_one_new _ _ _) (by simp[Value.oneCell']) (by unfold maxLen;omega) oo (by have:=hB.size;simp;omega) ?_;intro v' w3 hown3 hgrow3 _;obtain⟨A3,c3,rfl⟩:=zh hown3);have hcast:((48+d:Nat):Int)=48+(d:Int):=oo
     have hB3:=(hB.alloc hB.size _).grown hgrow3 (by have:=hB.size;simp;omega) (jv hown);have hown4:w3.ownsRow w.heap.size 5 1 (.slice A3 (k+1) c3) (k+1) (byteCells (pre true++(yu l).take (n-q))):=by
      have hq:=hstep.out;rw[<- hl.out]at hq;rw[hq,<- List.append_assoc,<- jae _ _ oo,hcast];exact hown3
     go_roundw
     case rel=>exact⟨(q:Int)-1,q,k+1,A3,c3,by show _=_;omega,oo,oo,oo,oo,rfl,rfl,hown4,hB3⟩
     case measure=>simp[RowKit.intOf]
    ·have hx':x<0:=oo
     obtain rfl:m=0:=by have:=hxm.out;omega
     have ht:(yu l).take (n-0)=yu l:=AY (by have:=hl.out;simp[yu];omega);rw[ht,<- kbb true HL1.out]at hown;have hk0:0<k:=by
      have h1:=hown.1;have h2:0<(tx true l).length:=by rw[kbb _ HL1.out];have:=hl.out;simp[yu];omega
      simp[byteCells]at h1;omega
     have hcv:=qbr hown hk0;clear ht hk0 hx;go_wp2;go_ret2;exact⟨rfl,hB⟩
theorem jE(s:ByteArray)(i:Nat)(h:i<s.size):s.data.toList[i]? = some s[i]:=by
 rw[CP];exact AK h
theorem kx(s:ByteArray):s.data.toList.length=s.size:=by rw[Cl];rfl
def kK(u:List UInt8):Bool:=decide (0<u.length)&&decide (u.length<=200)&&(u==[48]||u.head? != some 48)
theorem ybo(s:List UInt8):ks s=((jA s).all jl&&kK (jA s) && !(s.head? == some 45&&jA s==[48])):=by
 have e0:decide (0<(jA s).length) = !(jA s).isEmpty:=by cases jA s<;>simp
 unfold ks kK;rw[e0];by_cases hm:s.head? = some 45
 ·have e1:(s==[48])=false:=by
   rw[beq_eq_false_iff_ne];rintro rfl;simp at hm
  have e2:(s.head? == some 45)=true:=by simpa using hm
  rw[e1,e2];by_cases hb:jA s=[48]
  ·rw[hb];simp
  ·have e3:(jA s==[48])=false:=by simpa using hb
   rw[e3]
   cases (jA s).isEmpty<;>cases decide ((jA s).length<=200)<;>cases (jA s).all jl<;>cases ((jA s).head? != some 48)<;>rfl
 ·have e:jA s=s:=by unfold jA;rw[if_neg hm]
  have e2:(s.head? == some 45)=false:=by simpa using hm
  rw[e,e2]
  cases s.isEmpty<;>cases decide (s.length<=200)<;>cases s.all jl<;>cases (s==[48])<;>cases (s.head? != some 48)<;>rfl
theorem jad{a b:Bool}(h:a=b):Ending.returned (.bool a)=.returned (.bool b):=by rw[h]
def qbM(c:Bool)(w:World)(e:Ending)(w':World):Prop:=e=.returned (.bool c)/\w'=w
theorem vbs(s:ByteArray):(s.extract 1 s.size).data.toList=s.data.toList.tail:=by
 rw[Lib.extract_to_end];simp
theorem qP(u:ByteArray)(l:List UInt8):(u.toList==l)=(u.data.toList==l):=by rw[ByteArray.toList_eq]
theorem kat(s:ByteArray)(w:World)(hs:s.size<=9223372036854775807) :
  Calls prog 91 #[.string s] w (qbM (ks s.data.toList) w):=by
 have hvb:=ybo s.data.toList;by_cases hA:0<s.size/\s.data.toList.head? = some 45
 ·obtain⟨h0,h45⟩:=hA;have hc:s[0]=45:=by
   have:=jE s 0 h0;rw[<- CH,h45]at this;injection this with this;exact this.symm
  have hc1:(s[0].toNat:Int)=45:=by rw[hc];rfl
  have hbl:jA s.data.toList=(s.extract 1 s.size).data.toList:=by rw[vbs];unfold jA;rw[if_pos h45]
  rw[hbl,h45]at hvb;have hus:(s.extract 1 s.size).size<=9223372036854775807:=by rw[DX];omega
  clear hbl hc h45;by_cases h48:((s.extract 1 s.size).data.toList==[48])=true
  ·have h48':((s.extract 1 s.size).toList==[48])=true:=by rw[qP];exact h48
   rw[h48]at hvb;have HV:=hid hvb;clear h48 hvb;go_enter func91,ntmps91;go_wp2;go_ret;exact⟨jad (by rw[HV.out];simp),rfl⟩
  ·have h48':((s.extract 1 s.size).toList==[48])=false:=by rw[qP];simpa using h48
   have hn48:Hid (((s.extract 1 s.size).data.toList==[48])=false):=hid (by simpa using h48);have HV:=hid hvb;clear h48 hvb;go_enter func91,ntmps91;go_wp2;generalize s.extract 1 s.size=u at *;clear hc1 h0 h48';go_loop[3] (fun i=>∃ k:Nat,k<=u.size/\i=.int .i64 (k:Int)/\Hid ((u.data.toList.take k).all jl=true)) (fun i=>u.size-(RowKit.intOf i).toNat)
   case atStart=>exact⟨0,Bt _,rfl,by show _=_;simp⟩
   case round =>
    obtain⟨k,hk,rfl,hall⟩:=hrel;by_cases hlt:k<u.size
    ·have hcl:=hid (jE u k hlt);have hc256:(u[k].toNat:Int)<256:=by have:=u[k].toNat_lt;omega
     have hbad:Hid (jl u[k]=false->u.data.toList.all jl=false):=hid (fun hf=>by
      rw[List.all_eq_false];exact⟨u[k],Bk hcl.out,by simp[hf]⟩)
     have hgood:Hid (jl u[k]=true->(u.data.toList.take (k+1)).all jl=true):=hid (fun hf=>by
      rw[DU,hcl.out,List.all_append,hall.out];simp[hf])
     have hdig:Hid (jl u[k]=(decide (48<=u[k].toNat)&&decide (u[k].toNat<=57))):=hid rfl;by_cases h1:(u[k].toNat:Int)<48
     ·have hf:=hbad.out (by rw[hdig.out];simp;omega);have HF:=hid hf;clear hf;go_wp2;go_ret;exact⟨jad (by rw[HV.out,HF.out];rfl),rfl⟩
     ·by_cases h2:57<(u[k].toNat:Int)
      ·have hf:=hbad.out (by rw[hdig.out];simp;omega);have HF:=hid hf;clear hf;go_wp2;go_ret;exact⟨jad (by rw[HV.out,HF.out];rfl),rfl⟩
      ·have hg:=hgood.out (by rw[hdig.out];simp;omega);have HG:=hid hg;clear hg;go_wp2;go_round
       case rel=>exact⟨k+1,oo,by go_num,HG⟩
       case measure=>exact El
    ·obtain rfl:k=u.size:=oo
     have hall':u.data.toList.all jl=true:=by have:=hall.out;rwa[AY (by rw[kx];exact Am _)]at this
     have HALL:=hid hall';clear hall' hall hlt;have hlen:=hid (kx u);rcases Az u.size with hz|hz
     ·have hl:kK u.data.toList=false:=by unfold kK;have:=hlen.out;simp;omega
      have HL:=hid hl;clear hl;go_wp2;go_ret;exact⟨jad (by rw[HV.out,HALL.out,HL.out];rfl),rfl⟩
     ·by_cases h200:u.size<=200
      ·have hh:u.data.toList.head? = some u[0]:=by rw[CH];exact jE u 0 hz
       by_cases h48:(u.data.toList==[48])=true
       ·have h48':(u.toList==[48])=true:=by rw[qP];exact h48
        have hl:kK u.data.toList=true:=by unfold kK;have:=hlen.out;rw[h48];simp;omega
        have HL:=hid hl;clear hl hh h48;go_wp2;go_ret;exact⟨jad (by rw[HV.out,HALL.out,HL.out,hn48.out];rfl),rfl⟩
       ·have h48':(u.toList==[48])=false:=by rw[qP];simpa using h48
        by_cases hc:u[0]=48
        ·have hl:kK u.data.toList=false:=by unfold kK;rw[hh,hc];simp;intro _ _;simpa using h48
         have hc1:(u[0].toNat:Int)=48:=by rw[hc];rfl
         have HL:=hid hl;clear hl hh h48 hc;go_wp2;go_ret;exact⟨jad (by rw[HV.out,HALL.out,HL.out];rfl),rfl⟩
        ·have hl:kK u.data.toList=true:=by unfold kK;have:=hlen.out;rw[hh];simp;exact⟨⟨oo,oo⟩,.inr hc⟩
         have hc1:((u[0].toNat:Int)==48)=false:=by
          simp;intro e;exact hc (UInt8.toNat_inj.1 (by show u[0].toNat=48;omega))
         have HL:=hid hl;clear hl hh h48 hc;go_wp2;go_ret;exact⟨jad (by rw[HV.out,HALL.out,HL.out,hn48.out];simp only[bne,hc1];rfl),rfl⟩
      ·have hl:kK u.data.toList=false:=by unfold kK;have:=hlen.out;simp;intro _ h;omega
       have HL:=hid hl;clear hl;go_wp2;go_ret;exact⟨jad (by rw[HV.out,HALL.out,HL.out];rfl),rfl⟩
 ·have hno:Hid ((s.data.toList.head? == some 45)=false):=hid (by
   rw[beq_eq_false_iff_ne];intro e;refine hA ⟨?_,e⟩;rw[<- kx]
   cases hl:s.data.toList with
   | nil=>rw[hl]at e;cases e
   | cons c r=>simp)
  have hb:jA s.data.toList=s.data.toList:=by
   unfold jA;rw[if_neg];have:=hno.out;simpa using this
  rw[hb,hno.out]at hvb;have HV:=hid hvb;clear hb hvb;have hfirst:0<s.size->∃ c:Int,∃ h:0<s.size,(s[0].toNat:Int)=c/\(c==45)=false:=by
   intro h;refine⟨_,h,rfl,?_⟩;rw[beq_eq_false_iff_ne];intro e;have h1:=jE s 0 h;rw[<- CH]at h1;have h2:=hno.out;rw[h1,beq_eq_false_iff_ne]at h2;exact h2 (by congr 1;exact UInt8.toNat_inj.1 (by show s[0].toNat=45;omega))
  clear hA;obtain⟨u,hu⟩:∃ u,u=s:=⟨_,rfl⟩
  subst hu;rcases Az u.size with hz|hz
  ·clear hfirst;go_enter func91,ntmps91;go_wp2;go_loop[3] (fun i=>i=.int .i64 0) (fun _=>0)
   case atStart=>rfl
   case round =>
    subst hrel;have hl:kK u.data.toList=false:=by unfold kK;have:=kx u;simp;omega
    have HL:=hid hl;clear hl;go_wp2;go_ret;exact⟨jad (by rw[HV.out,HL.out];simp),rfl⟩
  ·obtain⟨c0,_,hc0,hc0'⟩:=hfirst hz;clear hfirst;go_enter func91,ntmps91;go_wp2;clear hc0 hc0' hz;go_loop[3] (fun i=>∃ k:Nat,k<=u.size/\i=.int .i64 (k:Int)/\Hid ((u.data.toList.take k).all jl=true)) (fun i=>u.size-(RowKit.intOf i).toNat)
   case atStart=>exact⟨0,Bt _,rfl,by show _=_;simp⟩
   case round =>
    obtain⟨k,hk,rfl,hall⟩:=hrel;by_cases hlt:k<u.size
    ·have hcl:=hid (jE u k hlt);have hc256:(u[k].toNat:Int)<256:=by have:=u[k].toNat_lt;omega
     have hbad:Hid (jl u[k]=false->u.data.toList.all jl=false):=hid (fun hf=>by
      rw[List.all_eq_false];exact⟨u[k],Bk hcl.out,by simp[hf]⟩)
     have hgood:Hid (jl u[k]=true->(u.data.toList.take (k+1)).all jl=true):=hid (fun hf=>by
      rw[DU,hcl.out,List.all_append,hall.out];simp[hf])
     have hdig:Hid (jl u[k]=(decide (48<=u[k].toNat)&&decide (u[k].toNat<=57))):=hid rfl;by_cases h1:(u[k].toNat:Int)<48
     ·have hf:=hbad.out (by rw[hdig.out];simp;omega);have HF:=hid hf;clear hf;go_wp2;go_ret;exact⟨jad (by rw[HV.out,HF.out];rfl),rfl⟩
     ·by_cases h2:57<(u[k].toNat:Int)
      ·have hf:=hbad.out (by rw[hdig.out];simp;omega);have HF:=hid hf;clear hf;go_wp2;go_ret;exact⟨jad (by rw[HV.out,HF.out];rfl),rfl⟩
      ·have hg:=hgood.out (by rw[hdig.out];simp;omega);have HG:=hid hg;clear hg;go_wp2;go_round
       case rel=>exact⟨k+1,oo,by go_num,HG⟩
       case measure=>exact El
    ·obtain rfl:k=u.size:=oo
     have hall':u.data.toList.all jl=true:=by have:=hall.out;rwa[AY (by rw[kx];exact Am _)]at this
     have HALL:=hid hall';clear hall' hall hlt;have hlen:=hid (kx u);rcases Az u.size with hz|hz
     ·have hl:kK u.data.toList=false:=by unfold kK;have:=hlen.out;simp;omega
      have HL:=hid hl;clear hl;go_wp2;go_ret;exact⟨jad (by rw[HV.out,HALL.out,HL.out];rfl),rfl⟩
     ·by_cases h200:u.size<=200
      ·have hh:u.data.toList.head? = some u[0]:=by rw[CH];exact jE u 0 hz
       by_cases h48:(u.data.toList==[48])=true
       ·have h48':(u.toList==[48])=true:=by rw[qP];exact h48
        have hl:kK u.data.toList=true:=by unfold kK;have:=hlen.out;rw[h48];simp;omega
        have HL:=hid hl;clear hl hh h48;go_wp2;go_ret;exact⟨jad (by rw[HV.out,HALL.out,HL.out];rfl),rfl⟩
       ·have h48':(u.toList==[48])=false:=by rw[qP];simpa using h48
        by_cases hc:u[0]=48
        ·have hl:kK u.data.toList=false:=by unfold kK;rw[hh,hc];simp;intro _ _;simpa using h48
         have hc1:(u[0].toNat:Int)=48:=by rw[hc];rfl
         have HL:=hid hl;clear hl hh h48 hc;go_wp2;go_ret;exact⟨jad (by rw[HV.out,HALL.out,HL.out];rfl),rfl⟩
        ·have hl:kK u.data.toList=true:=by unfold kK;have:=hlen.out;rw[hh];simp;exact⟨⟨oo,oo⟩,.inr hc⟩
         have hc1:((u[0].toNat:Int)==48)=false:=by
          simp;intro e;exact hc (UInt8.toNat_inj.1 (by show u[0].toNat=48;omega))
         have HL:=hid hl;clear hl hh h48 hc;go_wp2;go_ret;exact⟨jad (by rw[HV.out,HALL.out,HL.out];simp only[bne,hc1];rfl),rfl⟩
      ·have hl:kK u.data.toList=false:=by unfold kK;have:=hlen.out;simp;intro _ h;omega
       have HL:=hid hl;clear hl;go_wp2;go_ret;exact⟨jad (by rw[HV.out,HALL.out,HL.out];rfl),rfl⟩
def IsD(w:World)(A:En)(n c x:Nat):Prop:=∃ l,NumV w A n l/\Norm10 l/\zf l=x/\n<=c
theorem IsD.below{w w':World}{A:En}{n c x:Nat}(h:IsD w A n c x)(hb:Aa w w'):IsD w' A n c x :=
 let ⟨l,h1,h2,h3,h4⟩:=h;⟨l,h1.below hb,h2,h3,h4⟩
theorem Norm10.length_le{l:List Nat}(h:Norm10 l){K:Nat}(hv:zf l<10^K):l.length<=K:=by
 by_cases hn:l=[]
 ·subst hn;simp
 ·have h1:=vS h hn;have h2:l.length=(decDigits (zf l)).length:=by rw[<- h1];simp[yu]
  rcases Az K with e|e
  ·subst e;have:=h.val_pos hn;simp at hv;omega
  ·rw[h2];exact(vau _ K e).2 hv
theorem IsD.le{w:World}{A:En}{n c x:Nat}(h:IsD w A n c x){K:Nat}(hx:x<10^K):n<=K:=by
 obtain⟨l,h1,h2,h3,_⟩:=h;rw[h1.len];exact h2.length_le (by rw[h3];exact hx)
theorem Norm10.val_zero{l:List Nat}(h:Norm10 l):zf l=0↔l=[]:=by
 constructor
 ·intro e;by_cases hl:l=[]
  ·exact hl
  ·have:=h.val_pos hl;omega
 ·rintro rfl;rfl
theorem IsD.zero{w:World}{A:En}{n c x:Nat}(h:IsD w A n c x):n=0↔x=0:=by
 obtain⟨l,h1,h2,h3,_⟩:=h;rw[h1.len,<- h3,h2.val_zero];exact Bc
theorem qaO{l:List Nat}{u:Nat}(hs:Small10 l)(h:yu l=decDigits u)(hu:0<u):Norm10 l/\zf l=u:=by
 refine⟨⟨hs,?_⟩,by rw[<- zaD hs,h,vo]⟩;intro e;have hne:l≠[]:=by rintro rfl;simp at e
 have h1:=zC u hu;rw[<- h]at h1;apply h1;obtain⟨m,d,rfl⟩:∃ m d,l=m++[d]:=⟨l.dropLast,l.getLast hne,(BK hne).symm⟩
 rw[zM];simp at e;subst e;rfl
def yby(z:Int)(w:World)(e:Ending)(w':World):Prop:=∃ A n c,e=.returned (.tuple #[.bool (decide (z<0)),.slice A n c])/\IsD w' A n c z.natAbs/\Aa w w'
theorem za9(w:World):Calls prog 141 #[.string ⟨#[48]⟩] w (yby 0 w):=by
 go_enter func141,ntmps141;go_wp2;go_loopw[5,6] (fun v i wr=>v=.slice none 0 0/\i=.int .i64 0/\wr=w) (fun _ _ _=>0)
 case atStart=>exact⟨rfl,rfl,rfl⟩
 case round =>
  obtain⟨rfl,rfl,rfl⟩:=hrel;go_wp2;go_ret2;exact⟨none,0,0,rfl,⟨[],NumV.nil,zad,rfl,Am _⟩,Au _ _⟩
theorem vbm(s:ByteArray)(z:Int)(w:World)(hz:Is s z)(hf:Fits z)(h:z<0)(hsz:s.size<=9223372036854775807):Calls prog 141 #[.string s] w (yby z w):=by
 obtain⟨i0,hi,hz0,hz1,hz2⟩:=info_parts kE;have h45:s.data.toList.head? = some 45:=by unfold Is at hz;rw[hz];exact(vZ z).2 h
 have h0:0<s.size:=by
  rw[<- kx]
  cases hl:s.data.toList with
  | nil=>rw[hl]at h45;cases h45
  | cons c r=>simp
 have hc1:(s[0].toNat:Int)=45:=by
  have:=jE s 0 h0;rw[<- CH,h45]at this;injection this with this;rw[<- this];rfl
 have HUL:(s.extract 1 s.size).data.toList=decDigits z.natAbs:=by
  rw[vbs];have:=vM z;unfold Is at hz;rw[<- hz]at this;unfold jA at this
  rwa[if_pos h45]at this
 have hdz:decide (z<0)=true:=by simpa using h
 unfold yby;rw[hdz];clear h45 hz;obtain⟨u,hu⟩:∃ u,u=s.extract 1 s.size:=⟨_,rfl⟩
 rw[<- hu]at HUL;have hul:Hid (u.data.toList=decDigits z.natAbs):=hid HUL;have hd:Hid (∀ c∈u.data.toList,jl c=true):=hid (by rw[hul.out];exact kw _);have hfin0:Hid (∀ l,Small10 l->yu l=u.data.toList->Norm10 l/\zf l=z.natAbs):=hid (fun l h1 h2=>qaO h1 (by rw[h2,hul.out]) oo);have hu200:u.size<=200:=by
  have h1:=(vO z).2 hf;rw[<- hul.out,kx]at h1;exact h1
 have hu1:0<u.size:=by rw[<- kx,hul.out];exact zaC _
 have hn48:(u.toList==[48])=false:=by
  rw[qP,hul.out,beq_eq_false_iff_ne];intro e;rw[<- jm]at e;have:=jT e;omega
 have HSE:Hid (s.size-1=u.size):=hid (by rw[hu,DX];omega);clear HUL h hdz hf;go_enter func141,ntmps141;go_wp2_with fail;rw[<- hu];clear hu hc1;go_loopw[5,6] (fun v i wr=>∃(x:Int) (m k:Nat) (A:En) (c:Nat) (l:List Nat),Hid (x+1=m)/\m<=u.size/\k+m<=u.size /\ -1<=x/\x<u.size/\i=.int .i64 x/\v=.slice A k c/\wr.ownsRow w.heap.size 3 1 (.slice A k c) k (kq l)/\Aa w wr/\Hid (Small10 l/\yu l=u.data.toList.drop m))
  (fun _ i _=>(RowKit.intOf i+1).toNat)
 case atStart=>exact⟨(u.size:Int)-1,u.size,0,none,0,[],by show _=_;omega,Am _,oo,oo,oo,by rw[HSE.out],rfl,World.ownsRow_nil _ _ _ _,Au _ _,⟨zo,by rw[CD (by rw[kx];exact Am _)];rfl⟩⟩
 case round =>
  obtain⟨x,m,k,A,c,l,hxm,hmn,hkm,hx1,hxn,rfl,rfl,hown,hB,hl⟩:=hrel;by_cases hx:0<=x
  ·obtain⟨q,rfl⟩:∃ q:Nat,x=(q:Int):=⟨x.toNat,oo⟩
   obtain rfl:m=q+1:=by have:=hxm.out;omega
   have hqn:q<u.size:=oo
   have hcl:=hid (jE u q hqn);have hdq:jl u[q]=true:=hd.out _ (Bk hcl.out);have hd1:48<=(u[q].toNat:Int):=by simp[jl]at hdq;omega
   have hd2:(u[q].toNat:Int)<=57:=by simp[jl]at hdq;omega
   have hnew:Hid (Small10 (l++[((u[q].toNat:Int)-48).toNat])/\yu (l++[((u[q].toNat:Int)-48).toNat])=u.data.toList.drop q):=hid ⟨hl.out.1.append (Du oo zo),by
    rw[zM,hl.out.2,show 48+((u[q].toNat:Int)-48).toNat=u[q].toNat by omega];have hlt:q<u.data.toList.length:=by rw[kx];exact hqn
    rw[Cq hlt];congr 1;have:=hcl.out;rw[Ay hlt]at this;injection this with this;rw[this];simp⟩
   clear hdq hx;go_wp2_with (at_builtin;refine wpList_append_own _ rfl (.tmp 24) (.tmp 30) 146 rfl w.heap.size 3 i0 (.int .i64 0) 1 8 underlying146 hi hz0 hz1 hz2 rfl dd (.slice A k c) k (kq l) rfl (hown.alloc _) ⟨wr.heap.size,0,none⟩ 1 1 [.int .i64 ((u[q].toNat:Int)-48)] rfl rfl (cell_one_new _ _ _) (by simp[Value.oneCell']) (by unfold maxLen;omega) oo (by have:=hB.size;simp;omega) ?_;intro v' w3 hown3 hgrow3 _;obtain⟨A3,c3,rfl⟩:=zh hown3);go_roundw
   case rel=>exact⟨(q:Int)-1,q,k+1,A3,c3,l++[((u[q].toNat:Int)-48).toNat],by show _=_;omega,oo,oo,oo,oo,rfl,rfl,by rw[<- km _ _ oo];exact hown3,(hB.alloc hB.size _).grown hgrow3 (by have:=hB.size;simp;omega) (jv hown),hnew⟩
   case measure=>simp[RowKit.intOf]
  ·have hx':x<0:=oo
   obtain rfl:m=0:=by have:=hxm.out;omega
   have hfin:=hid (hfin0.out l hl.out.1 (by have:=hl.out.2;rwa[AH]at this));clear hx;go_wp2;go_ret2;exact⟨A,k,c,rfl,⟨l,BJ hown,hfin.out.1,hfin.out.2,qS hown⟩,hB⟩
theorem zbn(u:ByteArray)(z:Int)(w:World)(hz:Is u z)(hf:Fits z)(h:0<z):Calls prog 141 #[.string u] w (yby z w):=by
 obtain⟨i0,hi,hz0,hz1,hz2⟩:=info_parts kE;have HUL:u.data.toList=decDigits z.natAbs:=by
  unfold Is at hz;rw[hz];obtain⟨v,rfl⟩:∃ v:Nat,z=v:=⟨z.natAbs,oo⟩
  rw[vE,Bo]
 have hdz:decide (z<0)=false:=by simp;omega
 unfold yby;rw[hdz];have hul:Hid (u.data.toList=decDigits z.natAbs):=hid HUL;have hd:Hid (∀ c∈u.data.toList,jl c=true):=hid (by rw[hul.out];exact kw _);have hfin0:Hid (∀ l,Small10 l->yu l=u.data.toList->Norm10 l/\zf l=z.natAbs):=hid (fun l h1 h2=>qaO h1 (by rw[h2,hul.out]) oo);have hu200:u.size<=200:=by
  have h1:=(vO z).2 hf;rw[<- hul.out,kx]at h1;exact h1
 have hu1:0<u.size:=by rw[<- kx,hul.out];exact zaC _
 have hn48:(u.toList==[48])=false:=by
  rw[qP,hul.out,beq_eq_false_iff_ne];intro e;rw[<- jm]at e;have:=jT e;omega
 have hc1:48<=(u[0].toNat:Int):=by
  have h1:=hd.out u[0] (Bk (jE u 0 hu1));simp[jl]at h1;omega
 have hc2:(u[0].toNat:Int)<=57:=by
  have h1:=hd.out u[0] (Bk (jE u 0 hu1));simp[jl]at h1;omega
 have hc3:((u[0].toNat:Int)==45)=false:=by rw[beq_eq_false_iff_ne];omega
 clear HUL h hdz hf hz;go_enter func141,ntmps141;go_wp2;clear hc1 hc2 hc3;go_loopw[5,6] (fun v i wr=>∃(x:Int) (m k:Nat) (A:En) (c:Nat) (l:List Nat),Hid (x+1=m)/\m<=u.size/\k+m<=u.size /\ -1<=x/\x<u.size/\i=.int .i64 x/\v=.slice A k c/\wr.ownsRow w.heap.size 3 1 (.slice A k c) k (kq l)/\Aa w wr/\Hid (Small10 l/\yu l=u.data.toList.drop m))
  (fun _ i _=>(RowKit.intOf i+1).toNat)
 case atStart=>exact⟨(u.size:Int)-1,u.size,0,none,0,[],by show _=_;omega,Am _,oo,oo,oo,rfl,rfl,World.ownsRow_nil _ _ _ _,Au _ _,⟨zo,by rw[CD (by rw[kx];exact Am _)];rfl⟩⟩
 case round =>
  obtain⟨x,m,k,A,c,l,hxm,hmn,hkm,hx1,hxn,rfl,rfl,hown,hB,hl⟩:=hrel;by_cases hx:0<=x
  ·obtain⟨q,rfl⟩:∃ q:Nat,x=(q:Int):=⟨x.toNat,oo⟩
   obtain rfl:m=q+1:=by have:=hxm.out;omega
   have hqn:q<u.size:=oo
   have hcl:=hid (jE u q hqn);have hdq:jl u[q]=true:=hd.out _ (Bk hcl.out);have hd1:48<=(u[q].toNat:Int):=by simp[jl]at hdq;omega
   have hd2:(u[q].toNat:Int)<=57:=by simp[jl]at hdq;omega
   have hnew:Hid (Small10 (l++[((u[q].toNat:Int)-48).toNat])/\yu (l++[((u[q].toNat:Int)-48).toNat])=u.data.toList.drop q):=hid ⟨hl.out.1.append (Du oo zo),by
    rw[zM,hl.out.2,show 48+((u[q].toNat:Int)-48).toNat=u[q].toNat by omega];have hlt:q<u.data.toList.length:=by rw[kx];exact hqn
    rw[Cq hlt];congr 1;have:=hcl.out;rw[Ay hlt]at this;injection this with this;rw[this];simp⟩
   clear hdq hx;go_wp2_with (at_builtin;refine wpList_append_own _ rfl (.tmp 24) (.tmp 30) 146 rfl w.heap.size 3 i0 (.int .i64 0) 1 8 underlying146 hi hz0 hz1 hz2 rfl dd (.slice A k c) k (kq l) rfl (hown.alloc _) ⟨wr.heap.size,0,none⟩ 1 1 [.int .i64 ((u[q].toNat:Int)-48)] rfl rfl (cell_one_new _ _ _) (by simp[Value.oneCell']) (by unfold maxLen;omega) oo (by have:=hB.size;simp;omega) ?_;intro v' w3 hown3 hgrow3 _;obtain⟨A3,c3,rfl⟩:=zh hown3);go_roundw
   case rel=>exact⟨(q:Int)-1,q,k+1,A3,c3,l++[((u[q].toNat:Int)-48).toNat],by show _=_;omega,oo,oo,oo,oo,rfl,rfl,by rw[<- km _ _ oo];exact hown3,(hB.alloc hB.size _).grown hgrow3 (by have:=hB.size;simp;omega) (jv hown),hnew⟩
   case measure=>simp[RowKit.intOf]
  ·have hx':x<0:=oo
   obtain rfl:m=0:=by have:=hxm.out;omega
   have hfin:=hid (hfin0.out l hl.out.1 (by have:=hl.out.2;rwa[AH]at this));clear hx;go_wp2;go_ret2;exact⟨A,k,c,rfl,⟨l,BJ hown,hfin.out.1,hfin.out.2,qS hown⟩,hB⟩
theorem vf{s:ByteArray}{z:Int}(hz:Is s z)(hf:Fits z)(w:World):Calls prog 141 #[.string s] w (yby z w):=by
 rcases DT z 0 with h|h|h
 ·exact vbm s z w hz hf h (by have:=vcs hf;rw[hz.eq];omega)
 ·subst h;have e:s=⟨#[48]⟩:=by
   have h1:S 0=⟨#[48]⟩:=by
    unfold S;rw[show(0:Int)=((0:Nat):Int) from rfl,vE,jm]
   rw[hz.eq,h1]
  rw[e];exact za9 w
 ·exact zbn s z w hz hf h
theorem Norm10.val_ge{l:List Nat}(h:Norm10 l)(hn:l≠[]):10^(l.length-1)<=zf l:=by
 have h1:=vS h hn;have h2:l.length=(decDigits (zf l)).length:=by rw[<- h1];simp[yu]
 rcases AJ (zf l) (10^(l.length-1))with h3|h3
 ·exfalso;have h0:0<l.length:=DB.2 hn;rcases Az (l.length-1)with e|e
  ·rw[e]at h3;have:=h.val_pos hn;simp at h3;omega
  ·have:=(vau _ _ e).2 h3;omega
 ·exact h3
theorem Norm10.lt_of_length{l m:List Nat}(h:Norm10 l)(hm:Norm10 m)(hlt:l.length<m.length):zf l<zf m:=by
 have h1:=jW h.1;have h2:=hm.val_ge (by rintro rfl;simp at hlt);have h3:10^l.length<=10^(m.length-1):=Bm dd oo;omega
theorem zab{l m:List Nat}(h:Small10 l)(hlen:l.length=m.length)(i:Nat)(hi:i<l.length)(hlt:l.getD i 0<m.getD i 0)
  (heq:∀ j,i<j->j<l.length->l.getD j 0=m.getD j 0):zf l<zf m:=by
 induction l generalizing m i with
 | nil=>simp at hi
 | cons d l ih =>
  cases m with
  | nil=>simp at hlen
  | cons x m =>
   simp only[AE,Nat.add_right_cancel_iff]at hlen;simp only[zf]
   cases i with
   | zero =>
    simp only[DC]at hlt;have e:l=m:=by
     apply Dz hlen;intro j h1 h2;have:=heq (j+1) oo (by simp;omega);simp only[By]at this;rw[Ap,Ap,Ay h1,Ay h2]at this;simpa using this
    rw[e];omega
   | succ i =>
    simp only[By]at hlt;have h1:=ih h.cons.2 hlen i (by simpa using hi) hlt (fun j a b=>by
     have:=heq (j+1) oo (by simp;omega);simpa only[By]using this)
    have h2:=h.cons.1;omega
theorem va2{l k:List Nat}(nl:Norm10 l)(nk:Norm10 k)(h:l.length≠k.length):kp l.length k.length=kp (zf l) (zf k):=by
 rcases Nat.lt_or_gt_of_ne h with h|h
 ·have:=nl.lt_of_length nk h;unfold kp;rw[if_pos oo,if_pos oo]
 ·have:=nk.lt_of_length nl h;unfold kp;rw[if_neg oo,if_pos oo,if_neg oo,if_pos oo]
theorem qbR{l k:List Nat}(sl:Small10 l)(sk:Small10 k)(h:l.length=k.length)(i:Nat)(hi:i<l.length)(hne:l.getD i 0≠k.getD i 0)
  (heq:∀ j,i<j->j<l.length->l.getD j 0=k.getD j 0):kp (zf l) (zf k)=if l.getD i 0<k.getD i 0 then -1 else 1:=by
 by_cases hlt:l.getD i 0<k.getD i 0
 ·have:=zab sl h i hi hlt heq;rw[if_pos hlt];unfold kp;rw[if_pos oo]
 ·have:=zab sk h.symm i oo oo (fun j a b=>(heq j a oo).symm);rw[if_neg hlt];unfold kp;rw[if_neg oo,if_pos oo]
def kcw(c:Int)(w:World)(e:Ending)(w':World):Prop:=e=.returned (.int .i64 c)/\Aa w w'
theorem kbH(A B:En)(n c m d:Nat)(w:World)(h:n≠m)(_hn:n<=1000)(_hm:m<=1000) :
  Calls prog 142 #[.slice A n c,.slice B m d] w (kcw (kp n m) w):=by
 have h1:((n:Int)==(m:Int))=false:=by rw[beq_eq_false_iff_ne];omega
 rcases Nat.lt_or_gt_of_ne h with h|h
 ·have hc:kp (n:Int) (m:Int) = -1:=by unfold kp;rw[if_pos oo]
  rw[hc];clear hc;go_enter func142,ntmps142;go_wp2;go_ret;exact⟨rfl,Au _ _⟩
 ·have hc:kp (n:Int) (m:Int)=1:=by unfold kp;rw[if_neg oo,if_pos oo]
  rw[hc];clear hc;go_enter func142,ntmps142;go_wp2;go_ret;exact⟨rfl,Au _ _⟩
theorem qbn(A B:En)(n c d:Nat)(l k:List Nat)(w:World)(hl:NumV w A n l)(hk:NumV w B n k)(sl:Small10 l)(sk:Small10 k)(hn:n<=1000) :
  Calls prog 142 #[.slice A n c,.slice B n d] w (kcw (kp (zf l) (zf k)) w):=by
 have HL:=hid hl;have HK:=hid hk;have hll:=hid hl.len;have hkl:=hid hk.len;have hmx:prog.follows .mixedOrders=true:=by kernel_rfl
 obtain⟨R,hR⟩:∃ R:Int,R=kp (zf l) (zf k):=⟨_,rfl⟩
 rw[<- hR];have HR:=hid hR;clear hl hk hR;go_enter func142,ntmps142;go_wp2;go_loopw[5] (fun i wr=>∃(x:Int) (m:Nat),Hid (x+1=m)/\m<=n /\ -1<=x/\x<n/\i=.int .i64 x/\Aa w wr/\Hid (∀ j,m<=j->j<n->l.getD j 0=k.getD j 0)) (fun i _=>(RowKit.intOf i+1).toNat)
 case atStart=>exact⟨(n:Int)-1,n,by show _=_;omega,Am _,oo,oo,rfl,Au _ _,fun j h1 h2=>by omega⟩
 case round =>
  obtain⟨x,m,hxm,hmn,hx1,hxn,rfl,hB,heq⟩:=hrel;by_cases hx:0<=x
  ·obtain⟨q,rfl⟩:∃ q:Nat,x=(q:Int):=⟨x.toNat,oo⟩
   obtain rfl:m=q+1:=by have:=hxm.out;omega
   have hqn:q<n:=oo
   obtain⟨ad,hA,hbl1,hc1⟩:=HL.out.cell q hqn;obtain⟨ad',hB',hbl2,hc2⟩:=HK.out.cell q hqn;subst hA hB';have g1:wr.cell? (ad.add q)=some (.int .i64 ((l.getD q 0:Nat):Int)):=(hB.cell (by rw[qi];exact hbl1)).trans hc1;have g2:wr.cell? (ad'.add q)=some (.int .i64 ((k.getD q 0:Nat):Int)):=(hB.cell (by rw[qi];exact hbl2)).trans hc2;clear hc1 hc2 hbl1 hbl2 hx;by_cases he:l.getD q 0=k.getD q 0
   ·have heq':Hid (∀ j,q<=j->j<n->l.getD j 0=k.getD j 0):=hid (fun j h1 h2=>by
     rcases Dc h1 with e|e
     ·rw[<- e];exact he
     ·exact heq.out j e h2)
    rw[<- he]at g2;generalize l.getD q 0=e1 at g1 g2;clear he;go_wp2;go_quiet (fail);go_wp2;go_roundw
    case rel=>exact⟨(q:Int)-1,q,by show _=_;omega,oo,oo,oo,rfl,ze hB _,heq'⟩
    case measure=>simp[RowKit.intOf]
   ·have hcmp:=hid (qbR sl sk (by rw[<- hll.out,<- hkl.out]) q (by rw[<- hll.out];exact hqn) he (fun j h1 h2=>heq.out j h1 (by rw[hll.out];exact h2)));rw[<- HR.out]at hcmp;generalize l.getD q 0=e1 at *;generalize k.getD q 0=e2 at *;have hb:((e1:Int)==(e2:Int))=false:=by rw[beq_eq_false_iff_ne];omega
    by_cases hlt:e1<e2
    ·have hcc:R = -1:=by rw[hcmp.out,if_pos hlt]
     subst hcc;clear he;go_wp2;go_quiet (fail);go_wp2;go_quiet (fail);go_wp2;go_ret;exact⟨rfl,ze (ze hB _) _⟩
    ·have hcc:R=1:=by rw[hcmp.out,if_neg hlt]
     subst hcc;clear he;go_wp2;go_quiet (fail);go_wp2;go_quiet (fail);go_wp2;go_ret;exact⟨rfl,ze (ze hB _) _⟩
  ·have hx':x<0:=oo
   obtain rfl:m=0:=by have:=hxm.out;omega
   have hlk:l=k:=yaC (by rw[<- hll.out,<- hkl.out]) (fun j hj=>heq.out j oo (by rw[hll.out];exact hj));have hcc:R=0:=by rw[HR.out,hlk];unfold kp;simp
   subst hcc;clear hx hlk;go_wp2;go_ret;exact⟨rfl,hB⟩
theorem yD(A B:En)(n c m d x y:Nat)(w:World)(hx:IsD w A n c x)(hy:IsD w B m d y)(hn:n<=1000)(hm:m<=1000) :
  Calls prog 142 #[.slice A n c,.slice B m d] w (kcw (kp x y) w):=by
 obtain⟨l,hl,nl,vl,_⟩:=hx;obtain⟨k,hk,nk,vk,_⟩:=hy;rw[<- vl,<- vk];by_cases h:n=m
 ·subst h;exact qbn A B n c d l k w hl hk nl.1 nk.1 hn
 ·have e:=va2 nl nk (by rw[<- hl.len,<- hk.len];exact h);rw[<- hl.len,<- hk.len]at e;rw[<- e];exact kbH A B n c m d w h hn hm
end Go.Proofs.YtdiecekagiledaaGreatDoor
