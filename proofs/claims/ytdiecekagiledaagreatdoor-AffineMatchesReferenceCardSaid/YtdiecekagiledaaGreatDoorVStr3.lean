/- parse: the number that a valid string is. both: two valid strings are two. -/
import Derived.Lib.AppendIntMem
import Derived.Lib.AtoiErrMem
import Derived.Shelf.SlSorted.Search
import Derived.Test.YtdiecekagiledaaGreatDoorVOver
import Derived.Test.YtdiecekagiledaaGreatDoorVValid
set_option maxRecDepth 100000
set_option maxHeartbeats 2000000
namespace Go.Proofs.YtdiecekagiledaaGreatDoor
open Go Go.RowKit Go.Lib Go.Shelf Go.Proofs.Tryz
theorem ka3{c:UInt8}(h:jl c=true):Lib.digitVal c=some (c.toNat-48):=by
 unfold jl at h;simp only[AV,decide_eq_true_eq]at h;unfold Lib.digitVal;rw[if_pos h]
theorem yaB:∀(l:List UInt8) (acc:Nat),(∀ c∈l,jl c=true)->Lib.decFrom acc l=some (acc*10^l.length+zl l)
 | [],acc,_=>by simp[Lib.decFrom,zl]
 | c :: r,acc,h=>by
  rw[Lib.decFrom,ka3 (h c (by simp))];simp only;rw[yaB r _ (fun c hc=>h c (by simp[hc]))];congr 1;rw[show c :: r=[c]++r from rfl,yI];have:zl [c]=c.toNat-48:=by simp[zl]
  rw[this,AQ,Cr,Ci 1,Bn,Bv,Br,Bq 10];omega
theorem kcc{l:List UInt8}(hd:∀ c∈l,jl c=true)(hn:l≠[]):Lib.atoi l=some (zl l:Int):=by
 cases l with
 | nil=>exact absurd rfl hn
 | cons c r =>
  have hc:=hd c (by simp);unfold jl at hc;simp only[AV,decide_eq_true_eq]at hc;have h45:(c==45)=false:=by rw[beq_eq_false_iff_ne];intro e;rw[e]at hc;exact absurd hc.1 dd
  have h43:(c==43)=false:=by rw[beq_eq_false_iff_ne];intro e;rw[e]at hc;exact absurd hc.1 dd
  unfold Lib.atoi;simp only[h45,h43,Lib.decNat,List.isEmpty_cons,Bool.false_eq_true,if_false];rw[yaB _ _ hd];simp
theorem zbA(s:ByteArray)(hd:∀ c∈s.data.toList,jl c=true)(hn:s.data.toList≠[])(h4:s.data.toList.length<=18)(w:World) :
  Calls prog 206 #[.string s] w fun e w'=>e=.returned (.tuple #[.int .i64 (zl s.data.toList:Nat),.nilIface])/\Aa w w':=by
 refine(Tryz.strconv_Atoi s (zl s.data.toList:Nat) (show s.data.size<=18 from by rw[<- Cl];exact h4) (kcc hd hn) w).mono ?_;rintro e w'⟨rfl,t,rfl⟩;exact⟨rfl,bytesWorld_below w _ t⟩
theorem ybP(l:List UInt8)(hd:∀ c∈l,jl c=true)(hn:l≠[])(h4:l.length<=18)(w:World) :
  Calls prog 206 #[.string ⟨l.toArray⟩] w fun e w'=>e=.returned (.tuple #[.int .i64 (zl l:Nat),.nilIface])/\Aa w w' :=
 zbA ⟨l.toArray⟩ hd hn h4 w
theorem ja2{a b:ByteArray}(h:a.data.toList=b.data.toList):a=b:=by
 obtain⟨⟨a⟩⟩:=a;obtain⟨⟨b⟩⟩:=b;simp only at h;rw[h]
theorem jci(l:List UInt8)(i j:Nat)(h:l.length<=j):({ data:=l.toArray }:ByteArray).extract i j=⟨(l.drop i).toArray⟩:=by
 apply ja2;rw[ByteArray.data_extract,Array.toList_extract];simp only[List.extract];rw[AY (by rw[CL];exact Nat.sub_le_sub_right h i)]
theorem zbU(l:List UInt8)(i:Nat):({ data:=l.toArray }:ByteArray).extract 0 i=⟨(l.take i).toArray⟩:=by
 apply ja2;rw[ByteArray.data_extract,Array.toList_extract];simp[List.extract]
theorem ka7{w w':World}{base:Nat}{e:TypeId}{size:Nat}{v:Value}{n:Nat}{xs:List Value}(h:w.ownsRow base e size v n xs)(hb:Aa w w'):w'.ownsRow base e size v n xs:=by
 refine⟨h.1,?_⟩;rcases h.2 with h2|⟨g,cap,cur,h1,h2,h3,h4⟩
 ·exact .inl h2
 ·exact .inr ⟨g,cap,cur,h1,h2,(hb.block g (Ag.1 h3).1).trans h3,h4⟩
structure ParseInv(D:List UInt8)(p:Nat)(l:List Nat):Prop where
 small:Small l
 sum:zl D=val l+10000^l.length*zl (D.take p)
 le:p<=D.length
 len:4*l.length+p<=D.length+3
 eq:0<p->4*l.length+p=D.length
theorem ParseInv.start(D:List UInt8):ParseInv D D.length []:=⟨qJ,by simp[val],Am _,by simp,by simp⟩
theorem ParseInv.step{D:List UInt8}(hd:∀ c∈D,jl c=true){p:Nat}{l:List Nat}(h:ParseInv D p l)(hp:0<p):ParseInv D (p-4) (l++[zl ((D.take p).drop (p-4))]):=by
 have e:D.take p=D.take (p-4)++(D.take p).drop (p-4):=by
  have:=(List.take_append_drop (p-4) (D.take p)).symm
  rwa[List.take_take,BX oo]at this
 have hl:((D.take p).drop (p-4)).length=p-(p-4):=by rw[CL,Bu,BX h.le]
 have hdc:∀ c∈(D.take p).drop (p-4),jl c=true:=fun c hc=>hd c (Dv (List.mem_of_mem_drop hc))
 refine⟨h.small.append (Small.mk (vaC _ hdc oo) qJ),?_,by have:=h.le;omega,?_,?_⟩
 ·rw[h.sum,qad,AQ,Cr];have:zl (D.take p)=zl ((D.take p).drop (p-4))+10000*zl (D.take (p-4)):=by
   conv=>lhs;rw[e]
   refine qbg _ _ ?_;rcases AJ p 4 with h4|h4
   ·left;rw[show p-4=0 by omega];rfl
   ·right;omega
  rw[this,Bn,CJ,Dn];congr 1;rw[Bq (zl _) (10000^_),Br]
 ·rw[AQ,Cr];have:=h.eq hp;have:=h.le;omega
 ·intro _;rw[AQ,Cr];have:=h.eq hp;omega
theorem zb2(s:ByteArray)(w:World)(hd:∀ c∈jA s.data.toList,jl c=true)(h200:(jA s.data.toList).length<=200) :
  Calls prog 174 #[.string s] w fun e w'=>∃ A n c,e=.returned (.agg #[.bool (decide ((jA s.data.toList).length<s.size)),.slice A n c])/\IsNum w' A n c (zl (jA s.data.toList))/\Aa w w':=by
 obtain⟨i0,hi,hz0,hz1,hz2⟩:=info_parts kE;have hI0:=ParseInv.start (jA s.data.toList);generalize hD:jA s.data.toList=D at *;go_enter func174,ntmps174;go_wp2_with (first
  | (go_at_call 172;refine(vL _ _).mono ?_;rintro e w1⟨rfl,rfl⟩;rw[hD]))
 go_loopw[3] (fun d wr=>∃(p:Nat) (A:En) (cp:Nat) (l:List Nat),d=.string ⟨(D.take p).toArray⟩/\wr.heap[w.heap.size+1]? = some (.cells #[.bool (decide (D.length<s.size)),.slice A l.length cp] 149 (0,0))/\wr.heap[w.heap.size]? = some (.cells #[.bool false,.slice none 0 0] 149 (0,0))/\wr.ownsRow (w.heap.size+1+1) 3 1 (.slice A l.length cp) l.length (kq l)/\Aa w wr/\Hid (ParseInv D p l)/\p<=D.length/\l.length<=60)
  (fun d _=>match d with | .string s=>s.size|_=>0)
 case atStart =>
  refine⟨D.length,none,0,[],by rw[Dx],?_,?_,World.ownsRow_nil _ _ _ _,((Au _ w).alloc (Am _) _).alloc (by simp) _,hI0,Am _,by simp⟩
  ·exact(by simp:w.heap.size+1=(w.alloc (.cells #[Value.bool false,.slice none 0 0] 149)).heap.size) ▸ heap_alloc_new _ _
  ·rw[Below.heap_alloc _ _ _ (by simp)];exact heap_alloc_new _ _
 case round =>
  obtain⟨p,A,cp,l,rfl,hx,hr,hown,hB,hI,hp,hl⟩:=hrel;have hx1:wr.cell? ⟨w.heap.size+1,1,none⟩=some (.slice A l.length cp):=cell_of_row _ _ 1 _ _ _ hx;have hx2:=frozen_of_row _ _ 1 _ _ hx;have hx0:wr.cell? ⟨w.heap.size+1,0,none⟩=some (.bool (decide (D.length<s.size))):=cell_of_row _ _ 0 _ _ _ hx;have hxlt:w.heap.size+1<wr.heap.size:=(Ag.1 hx).1;by_cases hp0:p=0
  ·subst hp0;rw[AI];have hnum:NumV wr A l.length l:=BJ hown;have hsum:=hI.out.sum;rw[AI,show zl []=0 from rfl,Nat.mul_zero,Dg]at hsum;have HS:=hid hsum;have hr0:wr.cell? ⟨w.heap.size,0,none⟩=some (.bool false):=cell_of_row _ _ 0 _ _ _ hr;have hr1:wr.cell? ⟨w.heap.size,1,none⟩=some (.slice none 0 0):=cell_of_row _ _ 1 _ _ _ hr;have hr2:wr.frozen? ⟨w.heap.size,0,none⟩=false:=frozen_of_row _ _ 0 _ _ hr;have hr3:wr.frozen? ⟨w.heap.size,1,none⟩=false:=frozen_of_row _ _ 1 _ _ hr;have hrs0:∀ X v u,(wr.setCell ⟨w.heap.size+1,1,none⟩ v).setCell ⟨w.heap.size,0,none⟩ u=X->X.cell? ⟨w.heap.size,1,none⟩=some (.slice none 0 0):=by
    rintro X v u rfl;rw[World.cell?_setCell_other _ _ _ _ (by simp),World.cell?_setCell_other _ _ _ _ (by simp)];exact hr1
   clear hsum;go_wp2_with (go_at_call 176;go_must (refine(jD A l.length cp l _ hnum oo (qS hown) hI.out.small).mono ?_;rintro e1 Wt⟨⟨kt,rfl,hkt,hNt,hnt,hvt⟩,rfl⟩));have hAb:∀ ad,A=some ad->w.heap.size+1+1<=ad.block:=fun ad ea=>jv hown _ (by rw[ea];rfl)
   have hn1:IsNum Wt A kt cp (zl D):=⟨_,hNt,hnt,by rw[hvt,<- HS.out],by have:=qS hown;omega⟩
   have hn2:=((hn1.setOff (p:=⟨w.heap.size+1,1,none⟩) (fun ad ea=>by have:=hAb ad ea;simp;omega) (.slice A kt cp)).setOff (p:=⟨w.heap.size,0,none⟩) (fun ad ea=>by have:=hAb ad ea;simp;omega) (.bool (decide (D.length<s.size)))).setOff (p:=⟨w.heap.size,1,none⟩) (fun ad ea=>by have:=hAb ad ea;simp;omega) (.slice A kt cp);have hB2:=((hB.setCell (p:=⟨w.heap.size+1,1,none⟩) (by simp) (.slice A kt cp)).setCell (p:=⟨w.heap.size,0,none⟩) (by simp) (.bool (decide (D.length<s.size)))).setCell (p:=⟨w.heap.size,1,none⟩) (by simp) (.slice A kt cp);have hend:(((Wt.setCell ⟨w.heap.size+1,1,none⟩ (.slice A kt cp)).setCell ⟨w.heap.size,0,none⟩ (.bool (decide (D.length<s.size)))).setCell ⟨w.heap.size,1,none⟩ (.slice A kt cp)).heap[w.heap.size]? = some (.cells #[.bool (decide (D.length<s.size)),.slice A kt cp] 149 (0,0)):=by
    simp[World.setCell,BN,hr]
   generalize (((Wt.setCell ⟨w.heap.size+1,1,none⟩ (.slice A kt cp)).setCell ⟨w.heap.size,0,none⟩ (.bool (decide (D.length<s.size)))).setCell ⟨w.heap.size,1,none⟩ (.slice A kt cp))=Wf at *;have he0:Wf.cell? ⟨w.heap.size,0,none⟩=some (.bool (decide (D.length<s.size))):=cell_of_row _ _ 0 _ _ _ hend;have he1:Wf.cell? ⟨w.heap.size,1,none⟩=some (.slice A kt cp):=cell_of_row _ _ 1 _ _ _ hend;refine bodyPost_ret (v:=.agg #[.bool (decide (D.length<s.size)),.slice A kt cp]) ?res rfl ?_
   case res=>simp[results,f174,go_sem,he0,he1]
   exact⟨A,kt,cp,rfl,hn2,hB2⟩
  ·have hI2:=hid (hI.out.step hd oo);have hcl:((D.take p).drop (p-4)).length=p-(p-4):=by rw[CL,Bu,BX hp]
   have hcd:∀ c∈(D.take p).drop (p-4),jl c=true:=fun c hc=>hd c (Dv (List.mem_of_mem_drop hc))
   have hext:=jci (D.take p) (p-4) p (by rw[Bu];omega);have hext0:=zbU (D.take p) (p-4);rw[List.take_take,BX oo]at hext0;have hmx:max (0:Int) ((p:Int)-4)=((p-4:Nat):Int):=oo
   have hl2:l.length<60:=by have:=hI2.out.len;rw[AQ,Cr]at this;omega
   generalize hch:(D.take p).drop (p-4)=ch at *;have hcs:=vaC ch hcd oo;have hcn:ch≠[]:=by intro e;rw[e]at hcl;simp at hcl;omega
   have hc18:ch.length<=18:=oo
   go_wp2_with (first
    | (go_at_call 206;go_must (refine(ybP ch hcd hcn hc18 _).mono ?_;rintro e w2⟨rfl,hb2⟩;have hx3:=(hb2.block _ hxlt).trans hx;have hy1:w2.cell? ⟨w.heap.size+1,1,none⟩=some (.slice A l.length cp):=cell_of_row _ _ 1 _ _ _ hx3;have hy2:=frozen_of_row _ _ 1 _ _ hx3))
    | (at_builtin;refine wpList_append_own _ rfl (.tmp 31) (.tmp 33) 147 rfl (w.heap.size+1+1) 3 i0 (.int .i64 0) 1 8 underlying147 hi hz0 hz1 hz2 rfl dd (.slice A l.length cp) l.length (kq l) rfl ((ka7 hown hb2).alloc _) ⟨w2.heap.size,0,none⟩ 1 1 [.int .i64 (zl ch:Nat)] rfl rfl (cell_one_new _ _ _) (by simp[Value.oneCell']) (by unfold maxLen;omega) oo (by have:=hb2.size;simp;omega) ?_;intro v' w3 hown3 hgrow3 _;obtain⟨A3,c3,rfl⟩:=zh hown3;have hb3:Below (w.heap.size+1+1) w2 w3:=((Au _ _).alloc (by have:=hb2.size;omega) _).grown hgrow3 (by simp;have:=hb2.size;omega) (jv (ka7 hown hb2));have hx4:=(hb3.block _ oo).trans hx3;have hz1':w3.cell? ⟨w.heap.size+1,1,none⟩=some (.slice A l.length cp):=cell_of_row _ _ 1 _ _ _ hx4;have hz2':=frozen_of_row _ _ 1 _ _ hx4))
   go_roundw
   case rel =>
    have hll:(l++[zl ch]).length=l.length+1:=by simp
    refine⟨p-4,A3,c3,l++[zl ch],rfl,?_,?_,?_,?_,hI2,oo,by rw[hll];omega⟩
    ·rw[hll];simp[World.setCell,BN,hx4]
    ·rw[Below.heap_setCell _ _ _ _ (by simp),hb3.block _ oo,hb2.block _ oo];exact hr
    ·rw[hll,kag];exact ownsRow_setCell_below hown3 (by simp) _
    ·exact((hB.trans (hb2.mono hB.size)).trans (hb3.mono oo)).setCell (p:=⟨w.heap.size+1,1,none⟩) (by simp) _
   case measure =>
    simp[ByteArray.size];omega
def IsSig(w:World)(v:Value)(neg:Bool)(x:Nat):Prop:=∃ A n c,v=.agg #[.bool neg,.slice A n c]/\IsNum w A n c x
theorem IsSig.below{w w':World}{v:Value}{neg:Bool}{x:Nat}(h:IsSig w v neg x)(hb:Aa w w'):IsSig w' v neg x :=
 let ⟨A,n,c,e,hn⟩:=h;⟨A,n,c,e,hn.below hb⟩
theorem zb{W:World}{b:Nat}{v0 v1:Value}{t:TypeId}(h:W.heap[b]? = some (.cells #[v0,v1] t (0,0))) :
  W.cell? ⟨b,0,none⟩=some v0/\W.cell? ⟨b,1,none⟩=some v1/\W.frozen? ⟨b,0,none⟩=false/\W.frozen? ⟨b,1,none⟩=false :=
 ⟨cell_of_row _ _ 0 _ _ _ h,cell_of_row _ _ 1 _ _ _ h,frozen_of_row _ _ 0 _ _ h,frozen_of_row _ _ 1 _ _ h⟩
theorem IsNum.setCells{W:World}{A:En}{n c x:Nat}(h:IsNum W A n c x){b i:Nat}{cs:List Value}{t:TypeId}(hb:W.heap[b]? = some (.cells cs.toArray t (0,0)))
  (hv:∀ v∈cs,∀ a y,v ≠ .int a y) (u:Value):IsNum (W.setCell ⟨b,i,none⟩ u) A n c x:=by
 obtain⟨l,h1,h2,h3,h4⟩:=h;refine⟨l,⟨h1.1,fun hn => ?_⟩,h2,h3,h4⟩;obtain⟨ad,e,hlt,hc⟩:=h1.2 hn;refine⟨ad,e,by simpa[World.setCell]using hlt,fun j u' hu => ?_⟩;have hcell:=hc j u' hu;by_cases he:(ad.add j).block=b
 ·exfalso;have hu2:∃ a y,u'=.int a y:=by
   unfold kq at hu;rw[Dq]at hu
   cases hl:l[j]? with
   | none=>rw[hl]at hu;cases hu
   | some y=>rw[hl]at hu;simp at hu;exact⟨_,_,hu.symm⟩
  obtain⟨a',y',rfl⟩:=hu2;unfold World.cell? at hcell;rw[he,hb]at hcell;simp only at hcell;split at hcell
  ·cases hcell
  ·rw[BU]at hcell;exact hv _ (Bk hcell) _ _ rfl
 ·rw[World.cell?_setCell_other W _ _ u (fun e=>he (by rw[<- e]))];exact hcell
theorem jq{W:World}{b:Nat}{v0 v1:Value}{t:TypeId}(h:W.heap[b]? = some (.cells #[v0,v1] t (0,0)))(u0 u1:Value) :
  ((W.setCell ⟨b,0,none⟩ u0).setCell ⟨b,1,none⟩ u1).heap[b]? = some (.cells #[u0,u1] t (0,0)):=by
 simp[World.setCell,BN,h]
theorem IsNum.storeTwo{W:World}{A:En}{n c x:Nat}(h:IsNum W A n c x){b:Nat}{v0 v1:Value}{t:TypeId}(hb:W.heap[b]? = some (.cells #[v0,v1] t (0,0)))
  (h0:∀ a y,v0 ≠ .int a y) (h1:∀ a y,v1 ≠ .int a y) (u0 u1:Value) (hu:∀ a y,u0 ≠ .int a y):IsNum ((W.setCell ⟨b,0,none⟩ u0).setCell ⟨b,1,none⟩ u1) A n c x:=by
 refine IsNum.setCells (cs:=[u0,v1]) (IsNum.setCells (cs:=[v0,v1]) h hb ?_ u0) (t:=t) (by simp[World.setCell,BN,hb]) ?_ u1
 ·intro v hv;simp at hv;rcases hv with rfl|rfl<;>assumption
 ·intro v hv;simp at hv;rcases hv with rfl|rfl<;>assumption
theorem vb7{W:World}{b b':Nat}(hne:b≠b')(u0 u1:Value):((W.setCell ⟨b',0,none⟩ u0).setCell ⟨b',1,none⟩ u1).heap[b]? = W.heap[b]? := by
 rw[Below.heap_setCell _ _ _ _ hne,Below.heap_setCell _ _ _ _ hne]
theorem kb6(s:ByteArray):s.size=s.data.toList.length:=by rw[Cl];rfl
theorem jbi(z:Int):decide ((decDigits z.natAbs).length<(itoa z).length)=decide (z<0):=by
 congr 1;rcases Ce z 0 with h|h
 ·have e:z = -(z.natAbs:Int):=oo
  have:(itoa z).length=(decDigits z.natAbs).length+1:=by
   rw[e,vag _ oo];simp
  rw[this];simp[h]
 ·have e:z=(z.natAbs:Int):=oo
  have:(itoa z).length=(decDigits z.natAbs).length:=by
   conv=>lhs;rw[e]
   rw[vE]
  rw[this];have h2:¬ z<0:=oo
  simp[h2]
theorem qb2(s:ByteArray)(z:Int)(w:World)(hs:s.data.toList=itoa z)(hf:Fits z) :
  Calls prog 174 #[.string s] w fun e w'=>∃ v,e=.returned v/\IsSig w' v (decide (z<0)) z.natAbs/\Aa w w':=by
 have hb:jA s.data.toList=decDigits z.natAbs:=by rw[hs,vM]
 refine(zb2 s w (by rw[hb];exact kw _) (by rw[hb];exact(vO z).2 hf)).mono ?_;rintro e w'⟨A,n,c,rfl,hn,hB⟩;rw[hb,vo]at hn;refine⟨_,rfl,⟨A,n,c,?_,hn⟩,hB⟩;rw[hb,kb6,hs,jbi]
theorem qav(s:ByteArray)(w:World)(hs:s.size<=9223372036854775807)(hv:ks s.data.toList=true) :
  Calls prog 136 #[.string s] w fun e w'=>e=.returned (.bool true)/\Aa w w':=by
 have:=zaE s w hs
 rwa[hv]at this
theorem vcH(w:World)(v:Array Value)(t:TypeId):((w.alloc (.cells v t)).alloc (.cells v t)).heap[w.heap.size]? = some (.cells v t (0,0))/\((w.alloc (.cells v t)).alloc (.cells v t)).heap[w.heap.size+1]? = some (.cells v t (0,0)):=by
 constructor
 ·rw[Below.heap_alloc _ _ _ (by simp)];exact heap_alloc_new _ _
 ·have:w.heap.size+1=(w.alloc (.cells v t)).heap.size:=by simp
  rw[this];exact heap_alloc_new _ _
theorem kY(a b:ByteArray)(x y:Int)(w:World)(ha:a.data.toList=itoa x)(hb:b.data.toList=itoa y)(hx:Fits x)(hy:Fits y)
  (hsa:a.size<=9223372036854775807) (hsb:b.size<=9223372036854775807) :
  Calls prog 137 #[.string a,.string b] w fun e w'=>∃ u v,e=.returned (.tuple #[u,v,.bool true])/\IsSig w' u (decide (x<0)) x.natAbs/\IsSig w' v (decide (y<0)) y.natAbs/\Aa w w':=by
 have hva:ks a.data.toList=true:=by rw[ha];exact qai x hx
 have hvb:ks b.data.toList=true:=by rw[hb];exact qai y hy
 obtain⟨hn0,hn1⟩:=vcH w #[.bool false,.slice none 0 0] 149;have hB0:=qo w (.cells #[.bool false,.slice none 0 0] 149) (.cells #[.bool false,.slice none 0 0] 149);go_enter func137,ntmps137;go_wp2_with (first
  | (go_at_call_of 136 (Value.string a);generalize ((w.alloc (.cells #[.bool false,.slice none 0 0] 149)).alloc (.cells #[.bool false,.slice none 0 0] 149))=W0 at *;refine(qav a _ hsa hva).mono ?_;rintro e w1⟨rfl,hb1⟩)
  | (go_at_call_of 136 (Value.string b);refine(qav b _ hsb hvb).mono ?_;rintro e w2⟨rfl,hb2⟩)
  | (go_at_call_of 174 (Value.string a);refine(qb2 a x _ ha hx).mono ?_;rintro e w3⟨u,rfl,hu,hb3⟩)
  | (go_at_call_of 174 (Value.string b);refine(qb2 b y _ hb hy).mono ?_;rintro e w4⟨v,rfl,hv,hb4⟩;have hb14:Below W0.heap.size W0 w4:=((hb1.trans (hb2.mono hb1.size)).trans (hb3.mono (hb1.trans (hb2.mono hb1.size)).size)).trans (hb4.mono ((hb1.trans (hb2.mono hb1.size)).trans (hb3.mono (hb1.trans (hb2.mono hb1.size)).size)).size);have hm0:=(hb14.block _ (Ag.1 hn0).1).trans hn0;have hm1:=(hb14.block _ (Ag.1 hn1).1).trans hn1;obtain⟨c1,c2,c3,c4⟩:=zb hm0;obtain⟨c5,c6,c7,c8⟩:=zb hm1;obtain⟨A1,n1,k1,rfl,hu1⟩:=hu;obtain⟨A2,n2,k2,rfl,hv1⟩:=hv))
 have hs0:=jq hm0 (.bool (decide (x<0))) (.slice A1 n1 k1);have hs1:=(vb7 (b:=w.heap.size+1) (b':=w.heap.size) oo (.bool (decide (x<0))) (.slice A1 n1 k1)).trans hm1;have hu2:=(hu1.below hb4).storeTwo hm0 (fun _ _ e=>by cases e) (fun _ _ e=>by cases e) (.bool (decide (x<0))) (.slice A1 n1 k1) (fun _ _ e=>by cases e);have hv2:=hv1.storeTwo hm0 (fun _ _ e=>by cases e) (fun _ _ e=>by cases e) (.bool (decide (x<0))) (.slice A1 n1 k1) (fun _ _ e=>by cases e);have hB5:=((hB0.trans (hb14.mono hB0.size)).setCell (p:=⟨w.heap.size,0,none⟩) (by simp) (.bool (decide (x<0)))).setCell (p:=⟨w.heap.size,1,none⟩) (by simp) (.slice A1 n1 k1);generalize ((w4.setCell ⟨w.heap.size,0,none⟩ (.bool (decide (x<0)))).setCell ⟨w.heap.size,1,none⟩ (.slice A1 n1 k1))=w5 at *;have ht0:=(vb7 (b:=w.heap.size) (b':=w.heap.size+1) oo (.bool (decide (y<0))) (.slice A2 n2 k2)).trans hs0;have ht1:=jq hs1 (.bool (decide (y<0))) (.slice A2 n2 k2);have hu3:=hu2.storeTwo hs1 (fun _ _ e=>by cases e) (fun _ _ e=>by cases e) (.bool (decide (y<0))) (.slice A2 n2 k2) (fun _ _ e=>by cases e);have hv3:=hv2.storeTwo hs1 (fun _ _ e=>by cases e) (fun _ _ e=>by cases e) (.bool (decide (y<0))) (.slice A2 n2 k2) (fun _ _ e=>by cases e);have hB6:=(hB5.setCell (p:=⟨w.heap.size+1,0,none⟩) (by simp) (.bool (decide (y<0)))).setCell (p:=⟨w.heap.size+1,1,none⟩) (by simp) (.slice A2 n2 k2);generalize ((w5.setCell ⟨w.heap.size+1,0,none⟩ (.bool (decide (y<0)))).setCell ⟨w.heap.size+1,1,none⟩ (.slice A2 n2 k2))=w6 at *
 obtain⟨f1,f2,_,_⟩:=zb ht0;obtain⟨f3,f4,_,_⟩:=zb ht1;refine bodyPost_ret (v:=.tuple #[.agg #[.bool (decide (x<0)),.slice A1 n1 k1],.agg #[.bool (decide (y<0)),.slice A2 n2 k2],.bool true]) ?res rfl ?_
 case res=>simp[results,f137,go_sem,f1,f2,f3,f4]
 exact⟨_,_,rfl,⟨A1,n1,k1,rfl,hu3⟩,⟨A2,n2,k2,rfl,hv3⟩,hB6⟩
def sv(neg:Bool)(x:Nat):Int:=if neg then -(x:Int) else x
theorem kX(z:Int):sv (decide (z<0)) z.natAbs=z:=by
 unfold sv;by_cases h:z<0
 ·simp[h];omega
 ·simp[h];omega
theorem jb7(w:World)(u v r:Array Value)(t:TypeId) :
  (((w.alloc (.cells u t)).alloc (.cells v t)).alloc (.cells r t)).heap[w.heap.size]? = some (.cells u t (0,0))/\(((w.alloc (.cells u t)).alloc (.cells v t)).alloc (.cells r t)).heap[w.heap.size+1]? = some (.cells v t (0,0))
   /\ (((w.alloc (.cells u t)).alloc (.cells v t)).alloc (.cells r t)).heap[w.heap.size+1+1]? = some (.cells r t (0,0))/\Aa w (((w.alloc (.cells u t)).alloc (.cells v t)).alloc (.cells r t)):=by
 refine⟨?_,?_,?_,(((Au _ w).alloc (Am _) _).alloc (by simp) _).alloc (by simp;omega) _⟩
 ·rw[Below.heap_alloc _ _ _ (by simp;omega),Below.heap_alloc _ _ _ (by simp)];exact heap_alloc_new _ _
 ·rw[Below.heap_alloc _ _ _ (by simp)];have:w.heap.size+1=(w.alloc (.cells u t)).heap.size:=by simp
  rw[this];exact heap_alloc_new _ _
 ·have:w.heap.size+1+1=((w.alloc (.cells u t)).alloc (.cells v t)).heap.size:=by simp
  rw[this];exact heap_alloc_new _ _
theorem kba(u v:Value)(nu nv:Bool)(x y:Nat)(w:World)(hu:IsSig w u nu x)(hv:IsSig w v nv y)(hx:Mod x)(hy:Mod y) :
  Calls prog 170 #[u,v] w fun e w'=>∃ r nr z,e=.returned r/\IsSig w' r nr z/\sv nr z=sv nu x+sv nv y/\Aa w w':=by
 have hmx:prog.follows .mixedOrders=true:=by kernel_rfl
 obtain⟨A1,n1,k1,rfl,hu⟩:=hu;obtain⟨A2,n2,k2,rfl,hv⟩:=hv;obtain⟨hn0,hn1,hn2,hB0⟩:=jb7 w #[.bool nu,.slice A1 n1 k1] #[.bool nv,.slice A2 n2 k2] #[.bool false,.slice none 0 0] 149;have hu0:=hu.below hB0;have hv0:=hv.below hB0;obtain⟨c1,c2,_,_⟩:=zb hn0;obtain⟨c3,c4,_,_⟩:=zb hn1
 cases nu<;>cases nv
 ·have hsum:sv false (x+y)=sv false x+sv false y:=by simp[sv];try omega
  go_enter func170,ntmps170;go_wp2;generalize (((w.alloc (.cells #[.bool false,.slice A1 n1 k1] 149)).alloc (.cells #[.bool false,.slice A2 n2 k2] 149)).alloc (.cells #[.bool false,.slice none 0 0] 149))=W0 at *;go_region_held3 (fun X=>X.cell? ⟨w.heap.size,0,none⟩=some (.bool false)/\X.cell? ⟨w.heap.size,1,none⟩=some (.slice A1 n1 k1)/\X.cell? ⟨w.heap.size+1,0,none⟩=some (.bool false)/\X.cell? ⟨w.heap.size+1,1,none⟩=some (.slice A2 n2 k2)) (first|exact⟨c1,c2,c3,c4⟩|exact⟨d1,d2,d3,d4⟩|(refine⟨?_,?_,?_,?_⟩<;>(rw[World.cell?_setCell_other _ _ _ _ (by simp<;>omega),World.cell?_setCell_other _ _ _ _ (by simp<;>omega)];first|exact d1|exact d2|exact d3|exact d4))) (first|(go_at_call 185;refine(jP A1 A2 n1 k1 n2 k2 x y _ (by exact hu0) (by exact hv0) hx hy).mono ?_;rintro e W2⟨A3,n3,k3,rfl,h3,hb3'⟩;have hb3:=qb hb3';have g0:=(hb3.block _ (Ag.1 hn0).1).trans hn0;have g1:=(hb3.block _ (Ag.1 hn1).1).trans hn1;have g2:=(hb3.block _ (Ag.1 hn2).1).trans hn2;obtain⟨d1,d2,_,_⟩:=zb g0;obtain⟨d3,d4,_,_⟩:=zb g1;obtain⟨d5,d6,d7,d8⟩:=zb g2));go_wp2;have hB3:=hB0.trans (hb3.mono hB0.size);have hst:=jq g2 (.bool false) (.slice A3 n3 k3);have hnn:=h3.storeTwo g2 (fun _ _ e=>by cases e) (fun _ _ e=>by cases e) (.bool false) (.slice A3 n3 k3) (fun _ _ e=>by cases e)
  have hB4:=(hB3.setCell (p:=⟨w.heap.size+1+1,0,none⟩) (by simp;omega) (.bool false)).setCell (p:=⟨w.heap.size+1+1,1,none⟩) (by simp;omega) (.slice A3 n3 k3);generalize ((W2.setCell ⟨w.heap.size+1+1,0,none⟩ (.bool false)).setCell ⟨w.heap.size+1+1,1,none⟩ (.slice A3 n3 k3))=Wf at *;obtain⟨f1,f2,_,_⟩:=zb hst;refine bodyPost_ret (v:=.agg #[.bool false,.slice A3 n3 k3]) ?res rfl ?_
  case res=>simp[results,f170,go_sem,f1,f2]
  exact⟨_,false,(x+y),rfl,⟨A3,n3,k3,rfl,hnn⟩,hsum,hB4⟩
 ·by_cases hxy:y<=x
  ·have hsum:sv false (x-y)=sv false x+sv true y:=by simp[sv];try omega
   have hcz:0<=kp x y:=by unfold kp;split<;>(try split)<;>omega
   go_enter func170,ntmps170;go_wp2_with (go_at_call 138;generalize (((w.alloc (.cells #[.bool false,.slice A1 n1 k1] 149)).alloc (.cells #[.bool true,.slice A2 n2 k2] 149)).alloc (.cells #[.bool false,.slice none 0 0] 149))=W0 at *;refine(jw A1 A2 n1 k1 n2 k2 x y _ hu0 hv0 hx hy).mono ?_;rintro e W1⟨rfl,hb1⟩;have hn0:=(hb1.block _ (Ag.1 hn0).1).trans hn0;have hn1:=(hb1.block _ (Ag.1 hn1).1).trans hn1;have hn2:=(hb1.block _ (Ag.1 hn2).1).trans hn2;have hu0:=hu0.below hb1;have hv0:=hv0.below hb1;have hB0:=hB0.trans (hb1.mono hB0.size);obtain⟨c1,c2,_,_⟩:=zb hn0;obtain⟨c3,c4,_,_⟩:=zb hn1);go_region_held3 (fun X=>X.cell? ⟨w.heap.size,0,none⟩=some (.bool false)/\X.cell? ⟨w.heap.size,1,none⟩=some (.slice A1 n1 k1)/\X.cell? ⟨w.heap.size+1,0,none⟩=some (.bool true)/\X.cell? ⟨w.heap.size+1,1,none⟩=some (.slice A2 n2 k2)) (first|exact⟨c1,c2,c3,c4⟩|exact⟨d1,d2,d3,d4⟩|(refine⟨?_,?_,?_,?_⟩<;>(rw[World.cell?_setCell_other _ _ _ _ (by simp<;>omega),World.cell?_setCell_other _ _ _ _ (by simp<;>omega)];first|exact d1|exact d2|exact d3|exact d4))) (first|(go_at_call 180;refine(vI A1 A2 n1 k1 n2 k2 x y _ (by exact hu0) (by exact hv0) hx hy hxy).mono ?_;rintro e W2⟨A3,n3,k3,rfl,h3,hb3'⟩;have hb3:=qb hb3';have g0:=(hb3.block _ (Ag.1 hn0).1).trans hn0;have g1:=(hb3.block _ (Ag.1 hn1).1).trans hn1;have g2:=(hb3.block _ (Ag.1 hn2).1).trans hn2;obtain⟨d1,d2,_,_⟩:=zb g0;obtain⟨d3,d4,_,_⟩:=zb g1;obtain⟨d5,d6,d7,d8⟩:=zb g2))
   go_wp2;have hB3:=hB0.trans (hb3.mono hB0.size);have hst:=jq g2 (.bool false) (.slice A3 n3 k3);have hnn:=h3.storeTwo g2 (fun _ _ e=>by cases e) (fun _ _ e=>by cases e) (.bool false) (.slice A3 n3 k3) (fun _ _ e=>by cases e);have hB4:=(hB3.setCell (p:=⟨w.heap.size+1+1,0,none⟩) (by simp;omega) (.bool false)).setCell (p:=⟨w.heap.size+1+1,1,none⟩) (by simp;omega) (.slice A3 n3 k3);generalize ((W2.setCell ⟨w.heap.size+1+1,0,none⟩ (.bool false)).setCell ⟨w.heap.size+1+1,1,none⟩ (.slice A3 n3 k3))=Wf at *;obtain⟨f1,f2,_,_⟩:=zb hst;refine bodyPost_ret (v:=.agg #[.bool false,.slice A3 n3 k3]) ?res rfl ?_
   case res=>simp[results,f170,go_sem,f1,f2]
   exact⟨_,false,(x-y),rfl,⟨A3,n3,k3,rfl,hnn⟩,hsum,hB4⟩
  ·have hsum:sv true (y-x)=sv false x+sv true y:=by simp[sv];try omega
   have hcz:kp x y<0:=by unfold kp;split<;>(try split)<;>omega
   go_enter func170,ntmps170;go_wp2_with (go_at_call 138;generalize (((w.alloc (.cells #[.bool false,.slice A1 n1 k1] 149)).alloc (.cells #[.bool true,.slice A2 n2 k2] 149)).alloc (.cells #[.bool false,.slice none 0 0] 149))=W0 at *;refine(jw A1 A2 n1 k1 n2 k2 x y _ hu0 hv0 hx hy).mono ?_;rintro e W1⟨rfl,hb1⟩;have hn0:=(hb1.block _ (Ag.1 hn0).1).trans hn0;have hn1:=(hb1.block _ (Ag.1 hn1).1).trans hn1;have hn2:=(hb1.block _ (Ag.1 hn2).1).trans hn2;have hu0:=hu0.below hb1;have hv0:=hv0.below hb1;have hB0:=hB0.trans (hb1.mono hB0.size);obtain⟨c1,c2,_,_⟩:=zb hn0;obtain⟨c3,c4,_,_⟩:=zb hn1);go_region_held3 (fun X=>X.cell? ⟨w.heap.size,0,none⟩=some (.bool false)/\X.cell? ⟨w.heap.size,1,none⟩=some (.slice A1 n1 k1)/\X.cell? ⟨w.heap.size+1,0,none⟩=some (.bool true)/\X.cell? ⟨w.heap.size+1,1,none⟩=some (.slice A2 n2 k2)) (first|exact⟨c1,c2,c3,c4⟩|exact⟨d1,d2,d3,d4⟩|(refine⟨?_,?_,?_,?_⟩<;>(rw[World.cell?_setCell_other _ _ _ _ (by simp<;>omega),World.cell?_setCell_other _ _ _ _ (by simp<;>omega)];first|exact d1|exact d2|exact d3|exact d4))) (first|(go_at_call 180;refine(vI A2 A1 n2 k2 n1 k1 y x _ (by exact hv0) (by exact hu0) hy hx oo).mono ?_;rintro e W2⟨A3,n3,k3,rfl,h3,hb3'⟩;have hb3:=qb hb3';have g0:=(hb3.block _ (Ag.1 hn0).1).trans hn0;have g1:=(hb3.block _ (Ag.1 hn1).1).trans hn1;have g2:=(hb3.block _ (Ag.1 hn2).1).trans hn2;obtain⟨d1,d2,_,_⟩:=zb g0;obtain⟨d3,d4,_,_⟩:=zb g1;obtain⟨d5,d6,d7,d8⟩:=zb g2))
   go_wp2;have hB3:=hB0.trans (hb3.mono hB0.size);have hst:=jq g2 (.bool true) (.slice A3 n3 k3);have hnn:=h3.storeTwo g2 (fun _ _ e=>by cases e) (fun _ _ e=>by cases e) (.bool true) (.slice A3 n3 k3) (fun _ _ e=>by cases e);have hB4:=(hB3.setCell (p:=⟨w.heap.size+1+1,0,none⟩) (by simp;omega) (.bool true)).setCell (p:=⟨w.heap.size+1+1,1,none⟩) (by simp;omega) (.slice A3 n3 k3);generalize ((W2.setCell ⟨w.heap.size+1+1,0,none⟩ (.bool true)).setCell ⟨w.heap.size+1+1,1,none⟩ (.slice A3 n3 k3))=Wf at *;obtain⟨f1,f2,_,_⟩:=zb hst;refine bodyPost_ret (v:=.agg #[.bool true,.slice A3 n3 k3]) ?res rfl ?_
   case res=>simp[results,f170,go_sem,f1,f2]
   exact⟨_,true,(y-x),rfl,⟨A3,n3,k3,rfl,hnn⟩,hsum,hB4⟩
 ·by_cases hxy:y<=x
  ·have hsum:sv true (x-y)=sv true x+sv false y:=by simp[sv];try omega
   have hcz:0<=kp x y:=by unfold kp;split<;>(try split)<;>omega
   go_enter func170,ntmps170;go_wp2_with (go_at_call 138;generalize (((w.alloc (.cells #[.bool true,.slice A1 n1 k1] 149)).alloc (.cells #[.bool false,.slice A2 n2 k2] 149)).alloc (.cells #[.bool false,.slice none 0 0] 149))=W0 at *;refine(jw A1 A2 n1 k1 n2 k2 x y _ hu0 hv0 hx hy).mono ?_;rintro e W1⟨rfl,hb1⟩;have hn0:=(hb1.block _ (Ag.1 hn0).1).trans hn0;have hn1:=(hb1.block _ (Ag.1 hn1).1).trans hn1;have hn2:=(hb1.block _ (Ag.1 hn2).1).trans hn2;have hu0:=hu0.below hb1;have hv0:=hv0.below hb1;have hB0:=hB0.trans (hb1.mono hB0.size);obtain⟨c1,c2,_,_⟩:=zb hn0;obtain⟨c3,c4,_,_⟩:=zb hn1);go_region_held3 (fun X=>X.cell? ⟨w.heap.size,0,none⟩=some (.bool true)/\X.cell? ⟨w.heap.size,1,none⟩=some (.slice A1 n1 k1)/\X.cell? ⟨w.heap.size+1,0,none⟩=some (.bool false)/\X.cell? ⟨w.heap.size+1,1,none⟩=some (.slice A2 n2 k2)) (first|exact⟨c1,c2,c3,c4⟩|exact⟨d1,d2,d3,d4⟩|(refine⟨?_,?_,?_,?_⟩<;>(rw[World.cell?_setCell_other _ _ _ _ (by simp<;>omega),World.cell?_setCell_other _ _ _ _ (by simp<;>omega)];first|exact d1|exact d2|exact d3|exact d4))) (first|(go_at_call 180;refine(vI A1 A2 n1 k1 n2 k2 x y _ (by exact hu0) (by exact hv0) hx hy hxy).mono ?_;rintro e W2⟨A3,n3,k3,rfl,h3,hb3'⟩;have hb3:=qb hb3';have g0:=(hb3.block _ (Ag.1 hn0).1).trans hn0;have g1:=(hb3.block _ (Ag.1 hn1).1).trans hn1;have g2:=(hb3.block _ (Ag.1 hn2).1).trans hn2;obtain⟨d1,d2,_,_⟩:=zb g0;obtain⟨d3,d4,_,_⟩:=zb g1;obtain⟨d5,d6,d7,d8⟩:=zb g2))
   go_wp2;have hB3:=hB0.trans (hb3.mono hB0.size);have hst:=jq g2 (.bool true) (.slice A3 n3 k3);have hnn:=h3.storeTwo g2 (fun _ _ e=>by cases e) (fun _ _ e=>by cases e) (.bool true) (.slice A3 n3 k3) (fun _ _ e=>by cases e);have hB4:=(hB3.setCell (p:=⟨w.heap.size+1+1,0,none⟩) (by simp;omega) (.bool true)).setCell (p:=⟨w.heap.size+1+1,1,none⟩) (by simp;omega) (.slice A3 n3 k3);generalize ((W2.setCell ⟨w.heap.size+1+1,0,none⟩ (.bool true)).setCell ⟨w.heap.size+1+1,1,none⟩ (.slice A3 n3 k3))=Wf at *;obtain⟨f1,f2,_,_⟩:=zb hst;refine bodyPost_ret (v:=.agg #[.bool true,.slice A3 n3 k3]) ?res rfl ?_
   case res=>simp[results,f170,go_sem,f1,f2]
   exact⟨_,true,(x-y),rfl,⟨A3,n3,k3,rfl,hnn⟩,hsum,hB4⟩
  ·have hsum:sv false (y-x)=sv true x+sv false y:=by simp[sv];try omega
   have hcz:kp x y<0:=by unfold kp;split<;>(try split)<;>omega
   go_enter func170,ntmps170;go_wp2_with (go_at_call 138;generalize (((w.alloc (.cells #[.bool true,.slice A1 n1 k1] 149)).alloc (.cells #[.bool false,.slice A2 n2 k2] 149)).alloc (.cells #[.bool false,.slice none 0 0] 149))=W0 at *;refine(jw A1 A2 n1 k1 n2 k2 x y _ hu0 hv0 hx hy).mono ?_;rintro e W1⟨rfl,hb1⟩;have hn0:=(hb1.block _ (Ag.1 hn0).1).trans hn0;have hn1:=(hb1.block _ (Ag.1 hn1).1).trans hn1;have hn2:=(hb1.block _ (Ag.1 hn2).1).trans hn2;have hu0:=hu0.below hb1;have hv0:=hv0.below hb1;have hB0:=hB0.trans (hb1.mono hB0.size);obtain⟨c1,c2,_,_⟩:=zb hn0;obtain⟨c3,c4,_,_⟩:=zb hn1);go_region_held3 (fun X=>X.cell? ⟨w.heap.size,0,none⟩=some (.bool true)/\X.cell? ⟨w.heap.size,1,none⟩=some (.slice A1 n1 k1)/\X.cell? ⟨w.heap.size+1,0,none⟩=some (.bool false)/\X.cell? ⟨w.heap.size+1,1,none⟩=some (.slice A2 n2 k2)) (first|exact⟨c1,c2,c3,c4⟩|exact⟨d1,d2,d3,d4⟩|(refine⟨?_,?_,?_,?_⟩<;>(rw[World.cell?_setCell_other _ _ _ _ (by simp<;>omega),World.cell?_setCell_other _ _ _ _ (by simp<;>omega)];first|exact d1|exact d2|exact d3|exact d4))) (first|(go_at_call 180;refine(vI A2 A1 n2 k2 n1 k1 y x _ (by exact hv0) (by exact hu0) hy hx oo).mono ?_;rintro e W2⟨A3,n3,k3,rfl,h3,hb3'⟩;have hb3:=qb hb3';have g0:=(hb3.block _ (Ag.1 hn0).1).trans hn0;have g1:=(hb3.block _ (Ag.1 hn1).1).trans hn1;have g2:=(hb3.block _ (Ag.1 hn2).1).trans hn2;obtain⟨d1,d2,_,_⟩:=zb g0;obtain⟨d3,d4,_,_⟩:=zb g1;obtain⟨d5,d6,d7,d8⟩:=zb g2))
   go_wp2;have hB3:=hB0.trans (hb3.mono hB0.size);have hst:=jq g2 (.bool false) (.slice A3 n3 k3);have hnn:=h3.storeTwo g2 (fun _ _ e=>by cases e) (fun _ _ e=>by cases e) (.bool false) (.slice A3 n3 k3) (fun _ _ e=>by cases e);have hB4:=(hB3.setCell (p:=⟨w.heap.size+1+1,0,none⟩) (by simp;omega) (.bool false)).setCell (p:=⟨w.heap.size+1+1,1,none⟩) (by simp;omega) (.slice A3 n3 k3);generalize ((W2.setCell ⟨w.heap.size+1+1,0,none⟩ (.bool false)).setCell ⟨w.heap.size+1+1,1,none⟩ (.slice A3 n3 k3))=Wf at *;obtain⟨f1,f2,_,_⟩:=zb hst;refine bodyPost_ret (v:=.agg #[.bool false,.slice A3 n3 k3]) ?res rfl ?_
   case res=>simp[results,f170,go_sem,f1,f2]
   exact⟨_,false,(y-x),rfl,⟨A3,n3,k3,rfl,hnn⟩,hsum,hB4⟩
 ·have hsum:sv true (x+y)=sv true x+sv true y:=by simp[sv];try omega
  go_enter func170,ntmps170;go_wp2;generalize (((w.alloc (.cells #[.bool true,.slice A1 n1 k1] 149)).alloc (.cells #[.bool true,.slice A2 n2 k2] 149)).alloc (.cells #[.bool false,.slice none 0 0] 149))=W0 at *;go_region_held3 (fun X=>X.cell? ⟨w.heap.size,0,none⟩=some (.bool true)/\X.cell? ⟨w.heap.size,1,none⟩=some (.slice A1 n1 k1)/\X.cell? ⟨w.heap.size+1,0,none⟩=some (.bool true)/\X.cell? ⟨w.heap.size+1,1,none⟩=some (.slice A2 n2 k2)) (first|exact⟨c1,c2,c3,c4⟩|exact⟨d1,d2,d3,d4⟩|(refine⟨?_,?_,?_,?_⟩<;>(rw[World.cell?_setCell_other _ _ _ _ (by simp<;>omega),World.cell?_setCell_other _ _ _ _ (by simp<;>omega)];first|exact d1|exact d2|exact d3|exact d4))) (first|(go_at_call 185;refine(jP A1 A2 n1 k1 n2 k2 x y _ (by exact hu0) (by exact hv0) hx hy).mono ?_;rintro e W2⟨A3,n3,k3,rfl,h3,hb3'⟩;have hb3:=qb hb3';have g0:=(hb3.block _ (Ag.1 hn0).1).trans hn0;have g1:=(hb3.block _ (Ag.1 hn1).1).trans hn1;have g2:=(hb3.block _ (Ag.1 hn2).1).trans hn2;obtain⟨d1,d2,_,_⟩:=zb g0;obtain⟨d3,d4,_,_⟩:=zb g1;obtain⟨d5,d6,d7,d8⟩:=zb g2));go_wp2;have hB3:=hB0.trans (hb3.mono hB0.size);have hst:=jq g2 (.bool true) (.slice A3 n3 k3);have hnn:=h3.storeTwo g2 (fun _ _ e=>by cases e) (fun _ _ e=>by cases e) (.bool true) (.slice A3 n3 k3) (fun _ _ e=>by cases e)
  have hB4:=(hB3.setCell (p:=⟨w.heap.size+1+1,0,none⟩) (by simp;omega) (.bool true)).setCell (p:=⟨w.heap.size+1+1,1,none⟩) (by simp;omega) (.slice A3 n3 k3);generalize ((W2.setCell ⟨w.heap.size+1+1,0,none⟩ (.bool true)).setCell ⟨w.heap.size+1+1,1,none⟩ (.slice A3 n3 k3))=Wf at *;obtain⟨f1,f2,_,_⟩:=zb hst;refine bodyPost_ret (v:=.agg #[.bool true,.slice A3 n3 k3]) ?res rfl ?_
  case res=>simp[results,f170,go_sem,f1,f2]
  exact⟨_,true,(x+y),rfl,⟨A3,n3,k3,rfl,hnn⟩,hsum,hB4⟩
end Go.Proofs.YtdiecekagiledaaGreatDoor
namespace Go.Proofs.YtdiecekagiledaaGreatDoor
open Go Go.RowKit Go.Lib Go.Shelf Go.Proofs.Tryz
theorem vY{T e:TypeId}{B b:Nat}{bs:List Value}{W W':World}(h:Lib.IsBuilderF T e B b bs W)(hk:∀(k:Nat) cs t f,W.heap[k]? = some (.cells cs t f)->W'.heap[k]? = some (.cells cs t f)):Lib.IsBuilderF T e B b bs W':=by
 have key:∀ p,Lib.BuilderAtF T e B b p bs W->Lib.BuilderAtF T e B b p bs W':=by
  rintro p⟨hB,v,hb,hown,hne⟩;refine⟨hB,v,hk _ _ _ _ hb,?_,hne⟩;refine⟨hown.1,?_⟩;rcases hown.2 with h2|⟨g,cap,cur,fz,h1,h2,h3,h4⟩
  ·exact .inl h2
  ·exact .inr ⟨g,cap,cur,fz,h1,h2,hk _ _ _ _ h3,h4⟩
 exact h.elim (fun x=>.inl (key _ x)) (fun x=>.inr (key _ x))
def yV(l:List Nat)(s:List UInt8)(i:Nat):List UInt8:=s++(if i+1<l.length then qbv (gd l i) else decDigits (gd l i))
def kJ(l:List Nat){m:Nat}(pre:List (vJ m)):List UInt8:=pre.foldl (fun s i=>yV l s i.1) []
theorem kaI(l:List Nat){m:Nat}(pre:List (vJ m))(i:vJ m):kJ l (pre++[i])=yV l (kJ l pre) i.1:=by simp[kJ]
theorem zbK(l:List Nat)(hl:Small l){m:Nat}(pre:List (vJ m)):(kJ l pre).length<=4*pre.length:=by
 have key:∀(pre:List (vJ m)) (s:List UInt8),(pre.foldl (fun s i=>yV l s i.1) s).length<=s.length+4*pre.length:=by
  intro pre
  induction pre with
  | nil=>intro s;simp
  | cons i pre ih =>
   intro s;have h1:=ih (yV l s i.1);have h2:(yV l s i.1).length<=s.length+4:=by
    unfold yV;have h3:=hl.gd_lt i.1;rw[AQ];split
    ·rw[jah h3];omega
    ·have h4:(decDigits (gd l i.1)).length<=4:=(vau (gd l i.1) 4 dd).2 h3;omega
   simp only[List.foldl_cons,AE];omega
 have:=key pre [];simpa[kJ]using this
theorem vbn(l:List Nat)(m:Nat)(hm:m=l.length):∀ j,j<=m->kJ l (yai (bk m) j)=qax (l.reverse.take j):=by
 intro j
 induction j with
 | zero=>intro _;simp[yai,kJ,qax]
 | succ j ih =>
  intro hj;have e:(bk m j).1=m-(j+1):=by unfold bk;simp;omega
  rw[zT,kaI,ih oo,e];have hg:l.reverse.take (j+1)=l.reverse.take j++[gd l (m-(j+1))]:=by
   rw[DU];congr 1;rw[List.getElem?_reverse oo];have:l.length-1-j=m-(j+1):=oo
   rw[this,Ay oo];unfold gd;rw[Ap,Ay oo];rfl
  rw[hg];unfold yV;rcases Az j with e0|e0
  ·subst e0;rw[if_neg oo];simp[qax]
  ·rw[if_pos oo];rw[ybJ _ _ (by intro e;have h9:=congrArg List.length e;rw[Bu,DD,Bh]at h9;omega)]
theorem vbJ(l:List Nat)(h:Norm l)(hn:l≠[])(m:Nat)(hm:m=l.length):kJ l (yai (bk m) m)=decDigits (val l):=by
 rw[vbn l m hm m (Am _),hm,AY (by rw[DD];exact Am _)];exact kbJ h hn
def jn(z:Int):List UInt8:=if Fits z then itoa z else []
def qH(z:Int):Int:=if Fits z then 0 else 30
attribute [local go_sem] Oper.semAt_some
theorem vP:∀ c,Lib.repeatL [48] c=List.replicate c 48
 | 0=>rfl
 | c+1=>by rw[Lib.repeatL,vP c];rfl
theorem vbD(d:Nat)(hd:d<10000)(w W:World)(htab:Lib.TabIs prog w "internal/strconv.uint64pow10" .u64 Lib.pow10Tab)(hB:Aa w W) :
  Calls prog 171 #[.int .i64 (d:Int)] W fun e W'=>e=.returned (.string ⟨(decDigits d).toArray⟩)/\Below W.heap.size W W':=by
 refine(Tryz.strconv_Itoa (d:Int) oo oo W (tabBelow_of_tabIs htab W hB)).mono ?_;rintro e W'⟨rfl,k,os,rfl⟩;exact⟨by rw[vE],below_grown_sl _ _ _ _ (Am _)⟩
structure TextI(w:World)(A:En)(n c:Nat)(neg:Bool)(l:List Nat)(pre:List (vJ n))(W:World):Prop where
 x:W.heap[w.heap.size]? = some (.cells #[.bool neg,.slice A n c] 149 (0,0))
 s:Boxed W (w.heap.size+1+1) 147 (.slice A n c)
 b:Lib.IsBuilderF 196 5 (w.heap.size+1) (w.heap.size+1) (Lib.byteCells (kJ l pre)) W
 below:Aa w W
theorem qb7(w:World)(A:En)(n c:Nat)(neg:Bool)(l:List Nat)(Bl:Nat)(hBl:w.heap.size<=Bl):OwnFrom Bl (TextI w A n c neg l):=by
 intro pre X Y row hs hg hr;have hr':∀ r,row=some r->∃ o:Obj,X.heap[r]? = some o/\o.isCells=false:=fun r e=>(hr r e).2
 obtain⟨h1,h2,h3,h4⟩:=hs;have hlt:∀ {b:Nat} {cs:Array Value} {t:TypeId} {f:Nat × Nat},X.heap[b]? = some (.cells cs t f)->b<X.heap.size:=fun h=>(Ag.1 h).1
 exact⟨(hg.block _ (hlt h1) (yB hr' h1)).trans h1,h2.kept hg (yB hr' h2),vY h3 (fun k cs t f hk=>(hg.block _ (hlt hk) (yB hr' hk)).trans hk),h4.grown hg h4.size (fun k e=>Bb hBl (hr k e).1)⟩
theorem yaN{w:World}{A:En}{n c:Nat}{neg:Bool}{l:List Nat}{pre:List (vJ n)}{i:vJ n}{W W2 W3:World}{st:List UInt8}(hI:TextI w A n c neg l pre W)(hB12:Below W.heap.size W W2)
  (hbd3:Lib.BuilderAtF 196 5 (w.heap.size+1) (w.heap.size+1) (.pointer (some ⟨w.heap.size+1,0,none⟩)) (Lib.byteCells (kJ l pre)++Lib.strCells ⟨st.toArray⟩) W3) (hb3:Below (w.heap.size+1) W2 W3)
  (ho3:Lib.OthersKept 5 (some (w.heap.size+1)) W2 W3) (hst:kJ l (pre++[i])=kJ l pre++st) :
  (∀ D,KeepsFrom D W W3)/\KpB w.heap.size (w.heap.size+1+1) W W3/\TextI w A n c neg l (pre++[i]) W3:=by
 obtain⟨hX,hS,hBd,hB⟩:=hI;have hlt:∀ {b:Nat} {o:Obj},W.heap[b]? = some o->b<W.heap.size:=fun h=>(Ag.1 h).1
 have hbb:∃ p v,W2.heap[w.heap.size+1]? = some (.cells #[p,v] 196 (0,0)):=by
  rcases hBd with⟨_,v,hb,_⟩|⟨_,v,hb,_⟩
  ·exact⟨_,v,(hB12.block _ (hlt hb)).trans hb⟩
  ·exact⟨_,v,(hB12.block _ (hlt hb)).trans hb⟩
 have hS2:W2.heap[w.heap.size+1+1]? = some (.cells #[.slice A n c] 147 (0,0)):=(hB12.block _ (hlt hS)).trans hS;have hS3:W3.heap[w.heap.size+1+1]? = some (.cells #[.slice A n c] 147 (0,0)):=ho3 _ _ hS2 (fun e=>by injection e;omega) (fun c fz e=>by injection e with _ h _;exact absurd h dd);have hX2:=(hB12.block _ (hlt hX)).trans hX;have hlX:=hlt hX;have hs12:=hB12.size;refine⟨fun D=>(ym hB12).trans ⟨hb3.size,fun k o _ hk ho=>ho3 k o hk (fun e => ?_) (fun c fz e=>by subst e;cases ho)⟩,(Dd hB12 oo (hlt hS)).trans ⟨hb3.mono oo,hS3.trans hS2.symm⟩,(hb3.block _ oo).trans hX2,hS3,?_,(hB.trans (hB12.mono hB.size)).trans (hb3.mono oo)⟩
 ·obtain rfl:k=w.heap.size+1:=by injection e
  obtain⟨p,v,hp⟩:=hbb;rw[hp]at hk;cases hk
  cases ho
 ·rw[hst,Lib.byteCells_append];exact .inr hbd3
theorem vt(v:Value)(neg:Bool)(x:Nat)(w:World)(hv:IsSig w v neg x)(hx:x<10000^250)(htab:Lib.TabIs prog w "internal/strconv.uint64pow10" .u64 Lib.pow10Tab) :
  Calls prog 140 #[v] w fun e w'=>e=.returned (.tuple #[.string ⟨(jn (sv neg x)).toArray⟩,.int .i64 (qH (sv neg x))])/\Aa w w':=by
 obtain⟨A,n,c,rfl,hn⟩:=hv;have hn1:=hn.le hx;have hn0:=hn.zero;clear hx;have hb0:(w.alloc (.cells #[.bool neg,.slice A n c] 149)).heap[w.heap.size]? = some (.cells #[.bool neg,.slice A n c] 149 (0,0)):=heap_alloc_new _ _;obtain⟨c1,c2,_,_⟩:=zb hb0;refine(callsIn_wide (n:=3)).1 ?_;refine callsIn_of_wp_marks func140 rfl trivial ?_ rfl;simp only[ntmps140,CS,AE,Bh,Nat.reduceAdd,Nat.reduceSub,Cw,Cx,CT,CA,Co,BM];by_cases hz:x=0
 ·have hn00:n=0:=hn0.2 hz;subst hn00
  gi_wp2
  have hzz:jn (sv neg 0)=[48]/\qH (sv neg 0)=0:=by
   have e:sv neg 0=0:=by cases neg<;>rfl
   rw[e];exact⟨by unfold jn;rw[if_pos (by unfold Fits;decide)];rw[show(0:Int)=((0:Nat):Int) from rfl,vE,jm],by unfold qH;rw[if_pos (by unfold Fits;decide)]⟩
  subst hz;rw[hzz.1,hzz.2];refine⟨_,?res0,rfl,(Au _ w).alloc (Am _) _⟩
  case res0=>simp[results,f140,go_sem]
 ·have hnp:0<n:=by
   rcases Az n with e|e
   ·exact absurd (hn0.1 e) hz
   ·exact e
  have hne:¬ ((n:Int)=0):=oo
  gi_wp2_with (refine⟨trivial,?_⟩;gi_at_call 175;refine(vaQ _ _ _ _ _).mono ?_;rintro e w'⟨rfl,rfl⟩)
  obtain⟨l,hl,nl,vl,hnc⟩:=hn;have hln:=hid hl.len;have hI0:TextI w A n c neg l [] (((w.alloc (.cells #[.bool neg,.slice A n c] 149)).alloc (.cells #[.pointer none,.slice none 0 0] 196)).alloc (.cells #[.slice A n c] 147)):=by
   have e1:w.heap.size+1=(w.alloc (.cells #[.bool neg,.slice A n c] 149)).heap.size:=by simp
   have e2:w.heap.size+1+1=((w.alloc (.cells #[.bool neg,.slice A n c] 149)).alloc (.cells #[.pointer none,.slice none 0 0] 196)).heap.size:=by simp
   refine⟨?_,?_,.inl ⟨Am _,.slice none 0 0,?_,?_,by simp[Value.ownBlock]⟩,(((Au _ w).alloc (Am _) _).alloc (by simp) _).alloc (by simp;omega) _⟩
   ·rw[Below.heap_alloc _ _ _ (by simp;omega),Below.heap_alloc _ _ _ (by simp)];exact hb0
   ·rw[e2];exact Boxed.new _ _ _
   ·rw[Below.heap_alloc _ _ _ (by simp),e1];exact heap_alloc_new _ _
   ·simpa[kJ,Lib.byteCells]using World.ownsRowF_nil _ _ _ _
  generalize (((w.alloc (.cells #[.bool neg,.slice A n c] 149)).alloc (.cells #[.pointer none,.slice none 0 0] 196)).alloc (.cells #[.slice A n c] 147))=W0 at *;have hs2:w.heap.size+1+1<W0.heap.size:=hI0.s.lt;have htW:∀ W,Aa w W->Lib.TabIs prog W "internal/strconv.uint64pow10" .u64 Lib.pow10Tab:=fun W hW=>tabBelow_of_tabIs htab W hW
  refine wpIn_rangeFunc_ownG rfl oo (gf:=207) (lb:=#[.pointer (some ⟨w.heap.size+1+1,0,none⟩)]) rfl trivial (enters_of func207 kr9 rfl)
   (yab 2 oo (w.heap.size+1+1) w.heap.size A n c l oo _ oo oo hI0.s.cell (Reads.keep hl fun p hp=>hI0.below.cell hp)) KpB.trans (KpB.book oo oo) (Au _ _) (fun _=>rfl)
   (TextI w A n c neg l) (fun _ _ _=>False) (qb7 _ _ _ _ _ _ _ oo) (fun _ _ _ _ _ hs _ _=>hs) hI0
   ?a1 ?assign ?jA ?done ?stop
  case assign =>
   intro q x W K hK
   gi_wp2
   exact hK
  case jA =>
   rintro q pre i W hI hlt;have hiv:i.1<n:=by have:=i.2;omega
   have hd1:=nl.1.gd_lt i.1;obtain⟨hX,hS,hBd,hB⟩:=hI;obtain⟨d1,d2,_,_⟩:=zb hX;have hk4:(decDigits (gd l i.1)).length<=4:=(vau (gd l i.1) 4 dd).2 hd1;have hIt:=fun W' hB'=>vbD (gd l i.1) hd1 w W' htab hB'
   have hpad:Lib.repeatL [48] (4-(decDigits (gd l i.1)).length)++decDigits (gd l i.1)=qbv (gd l i.1):=by rw[vP];rfl
   have hstep:kJ l (pre++[i])=kJ l pre++(if i.1+1<l.length then qbv (gd l i.1) else decDigits (gd l i.1)):=by rw[kaI];rfl
   have hlen:=zbK l nl.1 pre;generalize hdg:decDigits (gd l i.1)=dg at *;have hpd4:(qbv (gd l i.1)).length=4:=jah hd1;generalize hpd:qbv (gd l i.1)=pd at *;have hrl:(Lib.repeatL [48] (4-dg.length)).length+dg.length=4:=by
    have:=congrArg List.length hpad;rw[AQ]at this;omega
   have hap:(({ data:=(Lib.repeatL [48] (4-dg.length)).toArray }:ByteArray)++{ data:=dg.toArray })=⟨pd.toArray⟩:=by
    apply ja2;rw[<- hpad];simp[ByteArray.data_append]
   have hw4:=hid (show(4-(dg.length:Int))=((4-dg.length:Nat):Int) by omega);by_cases hil:i.1+1<n
   ·have hil':(i.1:Int)<(n:Int)-1:=oo
    gi_wp2_with (first
     | (refine⟨trivial,?_⟩;gi_at_call 171;go_must (refine(CallsIn.inRound q (callsIn_wide.2 (hIt _ hB))).mono ?_;rintro e1 W1⟨rfl,hb1⟩;have hX1:=(hb1.block _ (Ag.1 hX).1).trans hX;obtain⟨d3,d4,_,_⟩:=zb hX1))
     | (refine⟨trivial,?_⟩;gi_at_call 167;go_must (rw[hw4.out];refine(CallsIn.inRound q (callsIn_wide.2 (Tryz.strings_Repeat ⟨#[48]⟩ (4-dg.length) _ oo (by simp[ByteArray.size];omega)))).mono ?_;rintro e1 W2⟨rfl,hb2⟩;have hB2:=hB.trans ((hb1.trans (hb2.mono hb1.size)).mono hB.size)))
     | (refine⟨trivial,?_⟩;gi_at_call 181;go_must (refine(CallsIn.inRound q (callsIn_wide.2 (yaw (w.heap.size+1) (w.heap.size+1) (Lib.byteCells (kJ l pre)) ⟨pd.toArray⟩ _ (vY hBd (fun k cs t f hk=>((hb1.trans (hb2.mono hb1.size)).block k (Ag.1 hk).1).trans hk)) (by rw[Lib.byteCells_length];simp[ByteArray.size];omega) (by have:=hB2.size;have:=hb2.size;have:=hb1.size;have:=hS.lt;omega)))).mono ?_;rintro e1 W3⟨rfl,hbd3,hb3,ho3⟩)))
    obtain⟨r1,r2,r3⟩:=yaN (i:=i) ⟨hX,hS,hBd,hB⟩ (hb1.trans (hb2.mono hb1.size)) hbd3 hb3 ho3 (by rw[hstep,if_pos (by have:=hln.out;omega)]);exact⟨r1 _,r2,r3⟩
   ·have hil':¬ (i.1:Int)<(n:Int)-1:=oo
    gi_wp2_with (first
     | (refine⟨trivial,?_⟩;gi_at_call 171;go_must (refine(CallsIn.inRound q (callsIn_wide.2 (hIt _ hB))).mono ?_;rintro e1 W1⟨rfl,hb1⟩;have hX1:=(hb1.block _ (Ag.1 hX).1).trans hX;obtain⟨d3,d4,_,_⟩:=zb hX1;have hB2:=hB.trans (hb1.mono hB.size)))
     | (refine⟨trivial,?_⟩;gi_at_call 181;go_must (refine(CallsIn.inRound q (callsIn_wide.2 (yaw (w.heap.size+1) (w.heap.size+1) (Lib.byteCells (kJ l pre)) ⟨dg.toArray⟩ _ (vY hBd (fun k cs t f hk=>(hb1.block k (Ag.1 hk).1).trans hk)) (by rw[Lib.byteCells_length];simp[ByteArray.size];omega) (by have:=hb1.size;have:=hS.lt;omega)))).mono ?_;rintro e1 W3⟨rfl,hbd3,hb3,ho3⟩)))
    obtain⟨r1,r2,r3⟩:=yaN (i:=i) ⟨hX,hS,hBd,hB⟩ hb1 hbd3 hb3 ho3 (by rw[hstep,if_neg (by have:=hln.out;omega)]);exact⟨r1 _,r2,r3⟩
  case done =>
   rintro D ys W hD rfl hI hK;have htx:=vbJ l nl (by intro e;have:=hln.out;rw[e]at this;simp at this;omega) n hln.out;obtain⟨hX,hS,hBd,hB⟩:=hI;rw[htx,vl]at hBd;obtain⟨d1,d2,_,_⟩:=zb hX;have hdl:=vau x 200 dd;clear htx;have hfx:Fits (sv neg x)↔x<10^200:=by
    have:(sv neg x).natAbs=x:=by cases neg<;>simp[sv]
    unfold Fits;rw[this]
   by_cases hfit:(decDigits x).length<=200
   ·have hF:=hfx.2 (hdl.1 hfit);have hv1:jn (sv neg x)=itoa (sv neg x)/\qH (sv neg x)=0:=⟨by unfold jn;rw[if_pos hF],by unfold qH;rw[if_pos hF]⟩
    cases neg with
    | true =>
     have he:itoa (sv true x)=45 :: decDigits x:=by simp only[sv,if_true];exact vag x oo
     rw[he]at hv1;clear hdl hfx hF he;generalize hdx:decDigits x=dx at *;have HV:=hid hv1;clear hv1;have hap:(({ data:=#[45] }:ByteArray)++{ data:=dx.toArray })=⟨(45 :: dx).toArray⟩:=by
      apply ja2;simp[ByteArray.data_append]
     gi_wp2_with (refine⟨trivial,?_⟩;gi_at_call 182;go_must (refine(callsIn_wide.2 (Tryz.Builder_String_any_k (w.heap.size+1) (w.heap.size+1) dx _ hBd (by have:=hS.lt;omega))).mono ?_;rintro e1 W3⟨rfl,hbd3,hb3,ho3⟩;have hX3:=(hb3.block _ oo).trans hX;obtain⟨d3,d4,_,_⟩:=zb hX3))
     have hKD:W3.heap[D]? = some (.deferred (some [])):=ho3 D _ hK (fun e=>by injection e;omega) (fun c fz e=>by cases e);have hB4:Aa w (W3.putObj D (.deferred none)):=(hB.trans (hb3.mono oo)).trans (belowK_b (w:=w) (Am _) W3 D _ _ oo hKD rfl rfl);refine⟨by simp,.inl ⟨_,_,rfl,run_takeDeferred hKD,?_⟩⟩;refine⟨.tuple #[.string ⟨(45 :: dx).toArray⟩,.int .i64 0],?res1,?val,hB4⟩
     case res1=>simp[results,f140,go_sem];first|done|rfl
     case val=>rw[HV.out.1,HV.out.2]
    | false =>
     have he:itoa (sv false x)=decDigits x:=by simp only[sv];exact vE x
     rw[he]at hv1;clear hdl hfx hF he;generalize hdx:decDigits x=dx at *;have HV:=hid hv1;clear hv1
     gi_wp2_with (refine⟨trivial,?_⟩;gi_at_call 182;go_must (refine(callsIn_wide.2 (Tryz.Builder_String_any_k (w.heap.size+1) (w.heap.size+1) dx _ hBd (by have:=hS.lt;omega))).mono ?_;rintro e1 W3⟨rfl,hbd3,hb3,ho3⟩;have hX3:=(hb3.block _ oo).trans hX;obtain⟨d3,d4,_,_⟩:=zb hX3))
     have hKD:W3.heap[D]? = some (.deferred (some [])):=ho3 D _ hK (fun e=>by injection e;omega) (fun c fz e=>by cases e);have hB4:Aa w (W3.putObj D (.deferred none)):=(hB.trans (hb3.mono oo)).trans (belowK_b (w:=w) (Am _) W3 D _ _ oo hKD rfl rfl);refine⟨by simp,.inl ⟨_,_,rfl,run_takeDeferred hKD,?_⟩⟩;refine⟨.tuple #[.string ⟨dx.toArray⟩,.int .i64 0],?res1,?val,hB4⟩
     case res1=>simp[results,f140,go_sem];first|done|rfl
     case val=>rw[HV.out.1,HV.out.2]
   ·have hF:¬ Fits (sv neg x):=fun h=>hfit (hdl.2 (hfx.1 h))
    have hv1:jn (sv neg x)=[]/\qH (sv neg x)=30:=⟨by unfold jn;rw[if_neg hF],by unfold qH;rw[if_neg hF]⟩
    have HV:=hid hv1;clear hdl hfx hF hv1;generalize hdx:decDigits x=dx at *;have hfit':200<dx.length:=oo
    gi_wp2_with (refine⟨trivial,?_⟩;gi_at_call 182;go_must (refine(callsIn_wide.2 (Tryz.Builder_String_any_k (w.heap.size+1) (w.heap.size+1) dx _ hBd (by have:=hS.lt;omega))).mono ?_;rintro e1 W3⟨rfl,hbd3,hb3,ho3⟩;have hX3:=(hb3.block _ oo).trans hX;obtain⟨d3,d4,_,_⟩:=zb hX3))
    have hKD:W3.heap[D]? = some (.deferred (some [])):=ho3 D _ hK (fun e=>by injection e;omega) (fun c fz e=>by cases e);have hB4:Aa w (W3.putObj D (.deferred none)):=(hB.trans (hb3.mono oo)).trans (belowK_b (w:=w) (Am _) W3 D _ _ oo hKD rfl rfl);refine⟨by simp,.inl ⟨_,_,rfl,run_takeDeferred hKD,?_⟩⟩;refine⟨.tuple #[.string ⟨#[]⟩,.int .i64 30],?res1,?val,hB4⟩
    case res1=>simp[results,f140,go_sem];first|done|rfl
    case val=>rw[HV.out.1,HV.out.2]
  case stop =>
   rintro D cd pre W hD _ h;exact h.elim
end Go.Proofs.YtdiecekagiledaaGreatDoor
namespace Go.Proofs.YtdiecekagiledaaGreatDoor
open Go Go.RowKit Go.Lib Go.Shelf Go.Proofs.Tryz
abbrev Tab(w:World):Prop:=Lib.TabIs prog w "internal/strconv.uint64pow10" .u64 Lib.pow10Tab
theorem Tab.below{w w':World}(h:Tab w)(hb:Aa w w'):Tab w':=tabBelow_of_tabIs h w' hb
abbrev Str(a:ByteArray):Prop:=a.size<=9223372036854775807
theorem jac{x:Int}(h:Fits x):Mod x.natAbs:=by
 refine vp (K:=250) (AG h ?_) dd;decide +kernel
theorem jcv{z:Nat}{neg:Bool}{x y:Int}(hx:Fits x)(hy:Fits y)(h:sv neg z=x+y):z<10000^250:=by
 have h1:z=(x+y).natAbs:=by rw[<- h];cases neg<;>simp[sv]
 have h2:(10:Nat)^200+10^200<=10000^250:=by decide +kernel
 unfold Fits at hx hy;generalize (10:Nat)^200=T at *;generalize (10000:Nat)^250=U at *;omega
theorem qct(a b:ByteArray)(x y:Int)(w:World)(ht:Tab w)(ha:a.data.toList=itoa x)(hb:b.data.toList=itoa y)(hx:Fits x)(hy:Fits y)(hsa:Str a)(hsb:Str b) :
  Calls prog 132 #[.string a,.string b] w fun e w'=>e=.returned (.tuple #[.string ⟨(jn (x+y)).toArray⟩,.int .i64 (qH (x+y))])/\Aa w w':=by
 have mx:=jac hx;have my:=jac hy;have hsl:=fun(z:Nat) (neg:Bool) (h:sv neg z=x+y)=>jcv hx hy h
 have ax:=kX x;have ay:=kX y;go_enter func132,ntmps132;go_wp2_with (first
  | (go_at_call 137;go_must (refine(kY a b x y _ ha hb hx hy hsa hsb).mono ?_;rintro e w1⟨u,v,rfl,⟨A1,n1,k1,rfl,hu⟩,⟨A2,n2,k2,rfl,hv⟩,hb1⟩))
  | (go_at_call 170;go_must (refine(kba _ _ _ _ _ _ _ ⟨A1,n1,k1,rfl,hu.below (qo w1 _ _)⟩ ⟨A2,n2,k2,rfl,hv.below (qo w1 _ _)⟩ mx my).mono ?_;rintro e w2⟨r,nr,z,rfl,hr,hz,hb2⟩;rw[ax,ay]at hz;have hb12:Aa w w2:=hb1.trans (((qo w1 _ _).trans (hb2.mono (qo w1 _ _).size)).mono hb1.size)))
  | (go_at_call 140;go_must (refine(vt r nr z _ hr (hsl z nr hz) (ht.below hb12)).mono ?_;rintro e w3⟨rfl,hb3⟩;rw[hz])))
 go_wp2;refine bodyPost_ret (v:=.tuple #[.string ⟨(jn (x+y)).toArray⟩,.int .i64 (qH (x+y))]) ?res rfl ⟨rfl,hb12.trans (hb3.mono hb12.size)⟩
 case res=>simp[results,f132,go_sem]
theorem qcv(a b:ByteArray)(x y:Int)(w:World)(ht:Tab w)(ha:a.data.toList=itoa x)(hb:b.data.toList=itoa y)(hx:Fits x)(hy:Fits y)(hsa:Str a)(hsb:Str b) :
  Calls prog 184 #[.string a,.string b] w fun e w'=>e=.returned (.tuple #[.string ⟨(jn (x-y)).toArray⟩,.int .i64 (qH (x-y))])/\Aa w w':=by
 have mx:=jac hx;have my:=jac hy;have hsl:=fun(z:Nat) (neg:Bool) (h:sv neg z=x-y)=>jcv hx (y := -y) (by unfold Fits at *;rwa[Da]) h
 have ax:=kX x;have ay:sv (!decide (y<0)) y.natAbs = -y:=by
  have:=kX y;generalize decide (y<0)=d at *
  cases d<;>simp[sv]at * <;> omega
 go_enter func184,ntmps184;go_wp2_with (first
  | (go_at_call 137;go_must (refine(kY a b x y _ ha hb hx hy hsa hsb).mono ?_;rintro e w1⟨u,v,rfl,⟨A1,n1,k1,rfl,hu⟩,⟨A2,n2,k2,rfl,hv⟩,hb1⟩;generalize decide (y<0)=dy at *))
  | (go_at_call 170;go_must (refine(kba _ _ _ _ _ _ _ ⟨A1,n1,k1,rfl,hu.below (qo w1 _ _)⟩ ⟨A2,n2,k2,rfl,hv.below (qo w1 _ _)⟩ mx my).mono ?_;rintro e w2⟨r,nr,z,rfl,hr,hz,hb2⟩;rw[ax,ay,<- Int.sub_eq_add_neg]at hz;have hb12:Aa w w2:=hb1.trans (((qo w1 _ _).trans (hb2.mono (qo w1 _ _).size)).mono hb1.size)))
  | (go_at_call 140;go_must (refine(vt r nr z _ hr (hsl z nr hz) (ht.below hb12)).mono ?_;rintro e w3⟨rfl,hb3⟩;rw[hz])))
 go_wp2;refine bodyPost_ret (v:=.tuple #[.string ⟨(jn (x-y)).toArray⟩,.int .i64 (qH (x-y))]) ?res rfl ⟨rfl,hb12.trans (hb3.mono hb12.size)⟩
 case res=>simp[results,f184,go_sem]
theorem kb9(s:ByteArray)(w:World)(hs:Str s) :
  Calls prog 88 #[.string s] w fun e w'=>e=.returned (.bool (ks s.data.toList))/\Aa w w':=by
 go_enter func88,ntmps88;go_wp2_with (go_at_call 136;go_must (refine(zaE s _ hs).mono ?_;rintro e w1⟨rfl,hb1⟩));go_ret;exact⟨rfl,hb1⟩
theorem jI(w:World)(u v:Array Value)(t:TypeId):((w.alloc (.cells u t)).alloc (.cells v t)).heap[w.heap.size]? = some (.cells u t (0,0))/\((w.alloc (.cells u t)).alloc (.cells v t)).heap[w.heap.size+1]? = some (.cells v t (0,0)):=by
 constructor
 ·rw[Below.heap_alloc _ _ _ (by simp)];exact heap_alloc_new _ _
 ·have:w.heap.size+1=(w.alloc (.cells u t)).heap.size:=by simp
  rw[this];exact heap_alloc_new _ _
theorem kcv(x y:Int):sv (decide (x<0) != decide (y<0)) (x.natAbs*y.natAbs)=x*y:=by
 have hx:=kX x;have hy:=kX y;have e:((x.natAbs*y.natAbs:Nat):Int)=(x.natAbs:Int)*(y.natAbs:Int):=by simp
 conv=>rhs;rw[<- hx,<- hy]
 generalize decide (x<0)=a;generalize decide (y<0)=b
 cases a<;>cases b<;>simp[sv,e,Ee,DN]
theorem ybu{x y:Int}(hx:Fits x)(hy:Fits y):x.natAbs<10000^250/\y.natAbs<10000^250/\x.natAbs*y.natAbs<10000^250:=by
 have h2:(10:Nat)^200*10^200<=10000^250:=by decide +kernel
 have h3:(10:Nat)^200<=10000^250:=by decide +kernel
 have h4:x.natAbs*y.natAbs<=10^200*y.natAbs:=BC _ (Ch hx);have h5:10^200*y.natAbs<10^200*10^200:=Nat.mul_lt_mul_of_pos_left hy (Cy dd);exact⟨AG hx h3,AG hy h3,AG (AS h4 h5) h2⟩
theorem jcu(a b:ByteArray)(x y:Int)(w:World)(ht:Tab w)(ha:a.data.toList=itoa x)(hb:b.data.toList=itoa y)(hx:Fits x)(hy:Fits y)(hsa:Str a)(hsb:Str b) :
  Calls prog 168 #[.string a,.string b] w fun e w'=>e=.returned (.tuple #[.string ⟨(jn (x*y)).toArray⟩,.int .i64 (qH (x*y))])/\Aa w w':=by
 obtain⟨lx,ly,lxy⟩:=ybu hx hy;have hsm:=kcv x y;have LX:=hid lx;have LY:=hid ly;have LXY:=hid lxy;clear lx ly lxy;go_enter func168,ntmps168;go_wp2_with (first
  | (go_at_call 137;go_must (refine(kY a b x y _ ha hb hx hy hsa hsb).mono ?_;rintro e w1⟨u,v,rfl,⟨A1,n1,k1,rfl,hu⟩,⟨A2,n2,k2,rfl,hv⟩,hb1⟩;generalize decide (x<0)=dx at *;generalize decide (y<0)=dy at *)))
 obtain⟨m0,m1⟩:=jI w1 #[.bool dx,.slice A1 n1 k1] #[.bool dy,.slice A2 n2 k2] 149;have hb2:=qo w1 (.cells #[.bool dx,.slice A1 n1 k1] 149) (.cells #[.bool dy,.slice A2 n2 k2] 149);have hu2:=hu.below hb2;have hv2:=hv.below hb2;have hB:=hb1.trans (hb2.mono hb1.size);generalize ((w1.alloc (.cells #[.bool dx,.slice A1 n1 k1] 149)).alloc (.cells #[.bool dy,.slice A2 n2 k2] 149))=V at *;obtain⟨c1,c2,_,_⟩:=zb m0;obtain⟨c3,c4,_,_⟩:=zb m1;go_region_held3 (fun X=>X.cell? ⟨w1.heap.size,0,none⟩=some (.bool dx)/\X.cell? ⟨w1.heap.size,1,none⟩=some (.slice A1 n1 k1)/\X.cell? ⟨w1.heap.size+1,0,none⟩=some (.bool dy)/\X.cell? ⟨w1.heap.size+1,1,none⟩=some (.slice A2 n2 k2)) (first|exact⟨c1,c2,c3,c4⟩|exact⟨d1,d2,d3,d4⟩|exact⟨e1,e2,e3,e4⟩) (first
  | (go_at_call 196;refine(kb7 A1 A2 n1 k1 n2 k2 x.natAbs y.natAbs _ (by exact hu2) (by exact hv2) LX.out LY.out).mono ?_;rintro e W2⟨A3,n3,k3,rfl,h3,hb3'⟩;have hb3:=qb hb3';have g0:=(hb3.block _ (Ag.1 m0).1).trans m0;have g1:=(hb3.block _ (Ag.1 m1).1).trans m1;obtain⟨d1,d2,_,_⟩:=zb g0;obtain⟨d3,d4,_,_⟩:=zb g1;have hB2:=hB.trans (hb3.mono hB.size))
  | (go_at_call 140;refine(vt _ (dx != dy) (x.natAbs*y.natAbs) _ ⟨A3,n3,k3,rfl,h3⟩ LXY.out (ht.below hB2)).mono ?_;rintro e W3⟨rfl,hb4⟩;rw[hsm];have q0:=(hb4.block _ (Ag.1 g0).1).trans g0;have q1:=(hb4.block _ (Ag.1 g1).1).trans g1;obtain⟨e1,e2,_,_⟩:=zb q0;obtain⟨e3,e4,_,_⟩:=zb q1))
 go_wp2;refine bodyPost_ret (v:=.tuple #[.string ⟨(jn (x*y)).toArray⟩,.int .i64 (qH (x*y))]) ?res rfl ⟨rfl,hB2.trans (hb4.mono hB2.size)⟩
 case res=>simp[results,f168,go_sem]
theorem vbA(a b:ByteArray)(x y:Int)(w:World)(ha:a.data.toList=itoa x)(hb:b.data.toList=itoa y)(hx:Fits x)(hy:Fits y)(hsa:Str a)(hsb:Str b) :
  Calls prog 89 #[.string a,.string b] w fun e w'=>e=.returned (.int .i64 (kp x y))/\Aa w w':=by
 have mx:=jac hx;have my:=jac hy;have hc1:0<=x->0<=y->kp (x.natAbs:Int) (y.natAbs:Int)=kp x y:=fun h1 h2=>by rw[show(x.natAbs:Int)=x by omega,show(y.natAbs:Int)=y by omega]
 have hc2:x<0->y<0->kp (y.natAbs:Int) (x.natAbs:Int)=kp x y:=fun h1 h2=>by unfold kp;split<;>split<;>first|rfl|omega|(split<;>first|rfl|omega|(split<;>first|rfl|omega))
 have hc3:x<0->¬ y<0->kp x y = -1:=fun h1 h2=>by unfold kp;rw[if_pos oo]
 have hc4:¬ x<0->y<0->kp x y=1:=fun h1 h2=>by unfold kp;rw[if_neg oo,if_pos oo]
 by_cases h1:x<0<;>by_cases h2:y<0
 all_goals have hbo:=kY a b x y w ha hb hx hy hsa hsb
 ·rw[decide_eq_true h1,decide_eq_true h2]at hbo;rw[<- hc2 h1 h2];clear hc1 hc2 hc3 hc4;go_enter func89,ntmps89;go_wp2_with (first
   | (go_at_call 137;go_must (refine hbo.mono ?_;rintro e w1⟨u,v,rfl,⟨A1,n1,k1,rfl,hu⟩,⟨A2,n2,k2,rfl,hv⟩,hb1⟩))
   | (go_at_call 138;go_must (refine(jw A2 A1 n2 k2 n1 k1 _ _ _ (hv.below (qo w1 _ _)) (hu.below (qo w1 _ _)) my mx).mono ?_;rintro e w2⟨rfl,hb2⟩)))
  go_ret;exact⟨rfl,hb1.trans (((qo w1 _ _).trans (hb2.mono (qo w1 _ _).size)).mono hb1.size)⟩
 ·rw[decide_eq_true h1,decide_eq_false h2]at hbo;rw[hc3 h1 h2];clear hc1 hc2 hc3 hc4;go_enter func89,ntmps89;go_wp2_with (go_at_call 137;go_must (refine hbo.mono ?_;rintro e w1⟨u,v,rfl,⟨A1,n1,k1,rfl,hu⟩,⟨A2,n2,k2,rfl,hv⟩,hb1⟩));go_ret;exact⟨rfl,hb1.trans ((qo w1 _ _).mono hb1.size)⟩
 ·rw[decide_eq_false h1,decide_eq_true h2]at hbo;rw[hc4 h1 h2];clear hc1 hc2 hc3 hc4;go_enter func89,ntmps89;go_wp2_with (go_at_call 137;go_must (refine hbo.mono ?_;rintro e w1⟨u,v,rfl,⟨A1,n1,k1,rfl,hu⟩,⟨A2,n2,k2,rfl,hv⟩,hb1⟩));go_ret;exact⟨rfl,hb1.trans ((qo w1 _ _).mono hb1.size)⟩
 ·rw[decide_eq_false h1,decide_eq_false h2]at hbo;rw[<- hc1 oo oo];clear hc1 hc2 hc3 hc4;go_enter func89,ntmps89;go_wp2_with (first
   | (go_at_call 137;go_must (refine hbo.mono ?_;rintro e w1⟨u,v,rfl,⟨A1,n1,k1,rfl,hu⟩,⟨A2,n2,k2,rfl,hv⟩,hb1⟩))
   | (go_at_call 138;go_must (refine(jw A1 A2 n1 k1 n2 k2 _ _ _ (hu.below (qo w1 _ _)) (hv.below (qo w1 _ _)) mx my).mono ?_;rintro e w2⟨rfl,hb2⟩)))
  go_ret;exact⟨rfl,hb1.trans (((qo w1 _ _).trans (hb2.mono (qo w1 _ _).size)).mono hb1.size)⟩
theorem IsNum.unique{w:World}{A:En}{n c d p q:Nat}(h:IsNum w A n c p)(k:IsNum w A n d q):p=q:=by
 obtain⟨l,h1,h2,rfl,_⟩:=h;obtain⟨m,k1,k2,rfl,_⟩:=k;have hl:=h1.len;have hm:=k1.len;congr 1;refine Dz oo (fun j hj hj' => ?_);have hn:0<n:=oo
 obtain⟨ad,e,_,hc⟩:=h1.2 hn;obtain⟨ad',e',_,hc'⟩:=k1.2 hn;rw[e]at e';injection e' with e';subst e';have g1:=hc j _ (vH l j hj);have g2:=hc' j _ (vH m j hj');rw[g1]at g2;injection g2 with g2;injection g2 with _ g2;have g3:l.getD j 0=m.getD j 0:=oo
 rw[Ap,Ap,Ay hj,Ay hj']at g3;exact g3
open Classical in
noncomputable def jcn (w:World) (v:Value):Nat:=if h:∃ q A n c,v=.slice A n c/\IsNum w A n c q then h.choose else 0
theorem vay{w:World}{A:En}{n c q:Nat}(h:IsNum w A n c q):jcn w (.slice A n c)=q:=by
 have hx:∃ q A' n' c',Value.slice A n c=.slice A' n' c'/\IsNum w A' n' c' q:=⟨q,A,n,c,rfl,h⟩
 unfold jcn;rw[dif_pos hx];obtain⟨A',n',c',e,h'⟩:=hx.choose_spec;injection e with e1 e2 e3;subst e1 e2;exact h'.unique h
theorem vak{x y:Int}(hx:Fits x)(hy:Fits y):Fits ((x.natAbs.gcd y.natAbs:Nat):Int):=by
 unfold Fits at *;rw[Bo];rcases Az x.natAbs with h|h
 ·rw[h,Nat.gcd_zero_left];exact hy
 ·exact AS (Nat.gcd_le_left _ h) hx
theorem kcS(a b:ByteArray)(x y:Int)(w:World)(ht:Tab w)(ha:a.data.toList=itoa x)(hb:b.data.toList=itoa y)(hx:Fits x)(hy:Fits y)(hsa:Str a)(hsb:Str b) :
  Calls prog 90 #[.string a,.string b] w fun e w'=>e=.returned (.tuple #[.string ⟨(itoa ((x.natAbs.gcd y.natAbs:Nat):Int)).toArray⟩,.int .i64 0])/\Aa w w':=by
 obtain⟨lx,ly,_⟩:=ybu hx hy;have LX:=hid lx;have LY:=hid ly;clear lx ly;go_enter func90,ntmps90;go_wp2_with (first
  | (go_at_call 137;go_must (refine(kY a b x y _ ha hb hx hy hsa hsb).mono ?_;rintro e w1⟨u,v,rfl,⟨A1,n1,k1,rfl,hu⟩,⟨A2,n2,k2,rfl,hv⟩,hb1⟩;generalize decide (x<0)=dx at *;generalize decide (y<0)=dy at *)))
 obtain⟨m0,m1⟩:=jI w1 #[.bool dx,.slice A1 n1 k1] #[.bool dy,.slice A2 n2 k2] 149;have hb2:=qo w1 (.cells #[.bool dx,.slice A1 n1 k1] 149) (.cells #[.bool dy,.slice A2 n2 k2] 149);have hu2:=hu.below hb2;have hv2:=hv.below hb2;have hB:=hb1.trans (hb2.mono hb1.size);generalize ((w1.alloc (.cells #[.bool dx,.slice A1 n1 k1] 149)).alloc (.cells #[.bool dy,.slice A2 n2 k2] 149))=V at *;obtain⟨c1,c2,_,_⟩:=zb m0;obtain⟨c3,c4,_,_⟩:=zb m1;have hmx:prog.follows .mixedOrders=true:=by kernel_rfl
 go_quiet (fail);go_wp2;go_loopw[9,10] (fun kv lv wr=>∃(A:En) (n c:Nat) (B:En) (m e p q:Nat),kv=.slice A n c/\lv=.slice B m e/\IsNum wr A n c p/\IsNum wr B m e q/\p.gcd q=x.natAbs.gcd y.natAbs/\Aa w wr/\Hid (p<10000^250)/\Hid (q<10000^250))
  (fun _ lv wr=>jcn wr lv)
 case atStart=>exact⟨A1,n1,k1,A2,n2,k2,_,_,rfl,rfl,hu2,hv2,rfl,ze hB _,LX,LY⟩
 case round =>
  obtain⟨A,n,c,B,m,e,p,q,rfl,rfl,hp,hq,hg,hBr,HP,HQ⟩:=hrel;have hq0:=hq.zero;by_cases hz:q=0
  ·have hm0:m=0:=hq0.2 hz;subst hm0;rw[hz,Nat.gcd_zero_right]at hg;have hF:=vak hx hy;have hte:jn (sv false p)=itoa ((x.natAbs.gcd y.natAbs:Nat):Int)/\qH (sv false p)=0:=by
    have e:sv false p=((x.natAbs.gcd y.natAbs:Nat):Int):=by simp[sv,hg]
    rw[e];exact⟨by unfold jn;rw[if_pos hF],by unfold qH;rw[if_pos hF]⟩
   have HT:=hid hte;clear hte hF hg hq0 hz;go_wp2_with (go_at_call 140;go_must (refine(vt _ false p _ ⟨A,n,c,rfl,hp⟩ HP.out (ht.below hBr)).mono ?_;rintro e w3⟨rfl,hb3⟩;rw[HT.out.1,HT.out.2]));refine bodyPost_ret (v:=.tuple #[.string ⟨(itoa ((x.natAbs.gcd y.natAbs:Nat):Int)).toArray⟩,.int .i64 0]) ?res rfl ⟨rfl,hBr.trans (hb3.mono hBr.size)⟩
   case res=>simp[results,f90,go_sem]
  ·have hm0:0<m:=by
    rcases Az m with h|h
    ·exact absurd (hq0.1 h) hz
    ·exact h
   have hqp:0<q:=oo
   clear hq0;go_wp2_with (go_at_call 139;go_must (refine(zF A B n c m e p q _ hp hq HP.out HQ.out hqp).mono ?_;rintro e' w3⟨Aq,nq,cq,Ar,nr,cr,rfl,hqq,hrr,hb3⟩));go_roundw
   case rel=>exact⟨B,m,e,Ar,nr,cr,q,p%q,rfl,rfl,hq.below hb3,hrr,by rw[<- hg,Ej p q,Nat.gcd_rec q p,Ej],hBr.trans (hb3.mono hBr.size),HQ,BY (BA _ hqp) HQ.out⟩
   case measure=>rw[vay hrr,vay hq];exact BA _ hqp
end Go.Proofs.YtdiecekagiledaaGreatDoor
