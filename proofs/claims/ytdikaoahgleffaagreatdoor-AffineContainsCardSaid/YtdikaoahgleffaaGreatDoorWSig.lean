/-
 parse: the number that a valid string is. both: two valid strings are two numbers.
-/
import Derived.Deep.RegionHeld3
import Derived.Lib.AtoiErrMem
import Derived.OneCell
import Derived.Test.YtdikaoahgleffaaGreatDoorWCmp
import Derived.Test.YtdikaoahgleffaaGreatDoorWOver
import Derived.Test.YtdikaoahgleffaaGreatDoorWValid
set_option maxRecDepth 100000
set_option maxHeartbeats 1000000
namespace Go.Proofs.YtdikaoahgleffaaGreatDoor
open Go Go.RowKit Go.Lib Go.Shelf
theorem digitVal_dig {c:UInt8} (h:isDig c=true):Lib.digitVal c=some (c.toNat - 48):=by
 unfold isDig at h;simp only [Bool.and_eq_true,decide_eq_true_eq] at h;unfold Lib.digitVal;rw [if_pos h]
theorem decFrom_dig:∀ (l:List UInt8) (acc:Nat),(∀ c ∈ l,isDig c=true)→Lib.decFrom acc l=some (acc * 10 ^ l.length+evalD l)
 | [],acc,_=>by simp [Lib.decFrom,evalD]
 | c :: r,acc,h=>by
  rw [Lib.decFrom,digitVal_dig (h c (by simp))];simp only;rw [decFrom_dig r _ (fun c hc=>h c (by simp [hc]))];congr 1;rw [show c :: r=[c] ++ r from rfl,evalD_append];have:evalD [c]=c.toNat - 48:=by simp [evalD]
  rw [this,List.length_append,List.length_singleton,Nat.add_comm 1,Nat.pow_succ,Nat.add_mul,Nat.mul_assoc,Nat.mul_comm 10];omega
theorem atoi_dig {l:List UInt8} (hd:∀ c ∈ l,isDig c=true) (hn:l≠[]):Lib.atoi l=some (evalD l:Int):=by
 cases l with
 | nil=>exact absurd rfl hn
 | cons c r =>
  have hc:=hd c (by simp);unfold isDig at hc;simp only [Bool.and_eq_true,decide_eq_true_eq] at hc;have h45:(c == 45)=false:=by rw [beq_eq_false_iff_ne];intro e;rw [e] at hc;exact absurd hc.1 (by decide)
  have h43:(c == 43)=false:=by rw [beq_eq_false_iff_ne];intro e;rw [e] at hc;exact absurd hc.1 (by decide)
  unfold Lib.atoi;simp only [h45,h43,Lib.decNat,List.isEmpty_cons,Bool.false_eq_true,if_false];rw [decFrom_dig _ _ hd];simp
theorem atoi_small (s:ByteArray) (hd:∀ c ∈ s.data.toList,isDig c=true) (hn:s.data.toList≠[]) (h4:s.data.toList.length≤18) (w:World) :
  Calls Tryz.prog 187 #[.string s] w fun e w'=>e = .returned (.tuple #[.int .i64 (evalD s.data.toList:Nat),.nilIface])∧Below w.heap.size w w':=by
 refine (Tryz.strconv_Atoi s (evalD s.data.toList:Nat) (show s.data.size≤18 from by rw [← Array.length_toList];exact h4) (atoi_dig hd hn) w).mono ?_;rintro e w' ⟨rfl,t,rfl⟩;exact ⟨rfl,bytesWorld_below w _ t⟩
theorem atoi_list (l:List UInt8) (hd:∀ c ∈ l,isDig c=true) (hn:l≠[]) (h4:l.length≤18) (w:World) :
  Calls Tryz.prog 187 #[.string ⟨l.toArray⟩] w fun e w'=>e = .returned (.tuple #[.int .i64 (evalD l:Nat),.nilIface])∧Below w.heap.size w w' :=
 atoi_small ⟨l.toArray⟩ hd hn h4 w
theorem ba_ext {a b:ByteArray} (h:a.data.toList=b.data.toList):a=b:=by
 obtain ⟨⟨a⟩⟩:=a;obtain ⟨⟨b⟩⟩:=b;simp only at h;rw [h]
theorem ext_take (l:List UInt8) (i j:Nat) (h:l.length≤j):({ data:=l.toArray }:ByteArray).extract i j=⟨(l.drop i).toArray⟩:=by
 apply ba_ext;rw [ByteArray.data_extract,Array.toList_extract];simp only [List.extract];rw [List.take_of_length_le (by rw [List.length_drop];exact Nat.sub_le_sub_right h i)]
theorem ext_take0 (l:List UInt8) (i:Nat):({ data:=l.toArray }:ByteArray).extract 0 i=⟨(l.take i).toArray⟩:=by
 apply ba_ext;rw [ByteArray.data_extract,Array.toList_extract];simp [List.extract]
theorem own_below {w w':World} {base:Nat} {e:TypeId} {size:Nat} {v:Value} {n:Nat} {xs:List Value} (h:w.ownsRow base e size v n xs) (hb:Below w.heap.size w w'):w'.ownsRow base e size v n xs:=by
 refine ⟨h.1,?_⟩;rcases h.2 with h2 | ⟨g,cap,cur,h1,h2,h3,h4⟩
 ·exact .inl h2
 ·exact .inr ⟨g,cap,cur,h1,h2,(hb.block g (Array.getElem?_eq_some_iff.1 h3).1).trans h3,h4⟩
structure ParseInv (D:List UInt8) (p:Nat) (l:List Nat):Prop where
 small:Small l
 sum:evalD D=val l+10000 ^ l.length * evalD (D.take p)
 le:p≤D.length
 len:4 * l.length+p≤D.length+3
 eq:0<p→4 * l.length+p=D.length
theorem ParseInv.start (D:List UInt8):ParseInv D D.length []:=⟨small_nil,by simp [val],Nat.le_refl _,by simp,by simp⟩
theorem ParseInv.step {D:List UInt8} (hd:∀ c ∈ D,isDig c=true) {p:Nat} {l:List Nat} (h:ParseInv D p l) (hp:0<p):ParseInv D (p - 4) (l ++ [evalD ((D.take p).drop (p - 4))]):=by
 have e:D.take p=D.take (p - 4) ++ (D.take p).drop (p - 4):=by
  have:=(List.take_append_drop (p - 4) (D.take p)).symm
  rwa [List.take_take,Nat.min_eq_left (by omega)] at this
 have hl:((D.take p).drop (p - 4)).length=p - (p - 4):=by rw [List.length_drop,List.length_take,Nat.min_eq_left h.le]
 have hdc:∀ c ∈ (D.take p).drop (p - 4),isDig c=true:=fun c hc=>hd c (List.mem_of_mem_take (List.mem_of_mem_drop hc))
 refine ⟨h.small.append (Small.mk (evalD_small _ hdc (by omega)) small_nil),?_,by have:=h.le;omega,?_,?_⟩
 ·rw [h.sum,val_snoc,List.length_append,List.length_singleton];have:evalD (D.take p)=evalD ((D.take p).drop (p - 4))+10000 * evalD (D.take (p - 4)):=by
   conv=>lhs;rw [e]
   refine evalD_chunk _ _ ?_;rcases Nat.lt_or_ge p 4 with h4 | h4
   ·left;rw [show p - 4=0 by omega];rfl
   ·right;omega
  rw [this,Nat.pow_succ,Nat.mul_add,Nat.add_assoc];congr 1;rw [Nat.mul_comm (evalD _) (10000 ^ _),Nat.mul_assoc]
 ·rw [List.length_append,List.length_singleton];have:=h.eq hp;have:=h.le;omega
 ·intro _;rw [List.length_append,List.length_singleton];have:=h.eq hp;omega
theorem parse_any (s:ByteArray) (w:World) (hd:∀ c ∈ body s.data.toList,isDig c=true) (h200:(body s.data.toList).length≤200) :
  Calls Tryz.prog 155 #[.string s] w fun e w'=>∃ A n c,e = .returned (.agg #[.bool (decide ((body s.data.toList).length<s.size)),.slice A n c])∧IsNum w' A n c (evalD (body s.data.toList))∧Below w.heap.size w w':=by
 obtain ⟨i0,hi,hz0,hz1,hz2⟩:=info_parts intInfo;have hI0:=ParseInv.start (body s.data.toList);generalize hD:body s.data.toList=D at *;go_enter Tryz.func155, Tryz.ntmps155;go_wp2_with (first
  | (go_at_call 185; refine (trim_minus _ _).mono ?_;rintro e w1 ⟨rfl,rfl⟩;rw [hD]))
 go_loopw [3] (fun d wr=>∃ (p:Nat) (A:Option Addr) (cp:Nat) (l:List Nat),d = .string ⟨(D.take p).toArray⟩∧wr.heap[w.heap.size+1]? = some (.cells #[.bool (decide (D.length<s.size)),.slice A l.length cp] 127 (0,0))∧wr.heap[w.heap.size]? = some (.cells #[.bool false,.slice none 0 0] 127 (0,0))∧wr.ownsRow (w.heap.size+1+1) 3 1 (.slice A l.length cp) l.length (ints l)∧Below w.heap.size w wr∧Hid (ParseInv D p l)∧p≤D.length∧l.length≤60)
  (fun d _=>match d with | .string s=>s.size | _=>0)
 case atStart =>
  refine ⟨D.length,none,0,[],by rw [List.take_length],?_,?_,World.ownsRow_nil _ _ _ _,((Below.refl _ w).alloc (Nat.le_refl _) _).alloc (by simp) _,hI0,Nat.le_refl _,by simp⟩
  ·exact (by simp:w.heap.size+1=(w.alloc (.cells #[Value.bool false,.slice none 0 0] 127)).heap.size) ▸ heap_alloc_new _ _
  ·rw [Below.heap_alloc _ _ _ (by simp)];exact heap_alloc_new _ _
 case round =>
  obtain ⟨p,A,cp,l,rfl,hx,hr,hown,hB,hI,hp,hl⟩:=hrel;have hx1:wr.cell? ⟨w.heap.size+1,1,none⟩=some (.slice A l.length cp):=cell_of_row _ _ 1 _ _ _ hx;have hx2:=frozen_of_row _ _ 1 _ _ hx;have hx0:wr.cell? ⟨w.heap.size+1,0,none⟩=some (.bool (decide (D.length<s.size))):=cell_of_row _ _ 0 _ _ _ hx;have hxlt:w.heap.size+1<wr.heap.size:=(Array.getElem?_eq_some_iff.1 hx).1;by_cases hp0:p=0
  ·subst hp0;rw [List.take_zero];have hnum:NumV wr A l.length l:=Reads.of_own hown;have hsum:=hI.out.sum;rw [List.take_zero,show evalD []=0 from rfl,Nat.mul_zero,Nat.add_zero] at hsum;have HS:=Lib.hid hsum;have hr0:wr.cell? ⟨w.heap.size,0,none⟩=some (.bool false):=cell_of_row _ _ 0 _ _ _ hr;have hr1:wr.cell? ⟨w.heap.size,1,none⟩=some (.slice none 0 0):=cell_of_row _ _ 1 _ _ _ hr;have hr2:wr.frozen? ⟨w.heap.size,0,none⟩=false:=frozen_of_row _ _ 0 _ _ hr;have hr3:wr.frozen? ⟨w.heap.size,1,none⟩=false:=frozen_of_row _ _ 1 _ _ hr;have hrs0:∀ X v u,(wr.setCell ⟨w.heap.size+1,1,none⟩ v).setCell ⟨w.heap.size,0,none⟩ u=X→X.cell? ⟨w.heap.size,1,none⟩=some (.slice none 0 0):=by
    rintro X v u rfl;rw [World.cell?_setCell_other _ _ _ _ (by simp),World.cell?_setCell_other _ _ _ _ (by simp)];exact hr1
   clear hsum;go_wp2_with (go_at_call 188; go_must (refine (trimmed_any A l.length cp l _ hnum (by omega) (own_le hown) hI.out.small).mono ?_;rintro e1 Wt ⟨⟨kt,rfl,hkt,hNt,hnt,hvt⟩,rfl⟩));have hAb:∀ ad,A=some ad→w.heap.size+1+1≤ad.block:=fun ad ea=>own_ge hown _ (by rw [ea];rfl)
   have hn1:IsNum Wt A kt cp (evalD D):=⟨_,hNt,hnt,by rw [hvt,← HS.out],by have:=own_le hown;omega⟩
   have hn2:=((hn1.setOff (p:=⟨w.heap.size+1,1,none⟩) (fun ad ea=>by have:=hAb ad ea;simp;omega) (.slice A kt cp)).setOff (p:=⟨w.heap.size,0,none⟩) (fun ad ea=>by have:=hAb ad ea;simp;omega) (.bool (decide (D.length<s.size)))).setOff (p:=⟨w.heap.size,1,none⟩) (fun ad ea=>by have:=hAb ad ea;simp;omega) (.slice A kt cp);have hB2:=((hB.setCell (p:=⟨w.heap.size+1,1,none⟩) (by simp) (.slice A kt cp)).setCell (p:=⟨w.heap.size,0,none⟩) (by simp) (.bool (decide (D.length<s.size)))).setCell (p:=⟨w.heap.size,1,none⟩) (by simp) (.slice A kt cp);have hend:(((Wt.setCell ⟨w.heap.size+1,1,none⟩ (.slice A kt cp)).setCell ⟨w.heap.size,0,none⟩ (.bool (decide (D.length<s.size)))).setCell ⟨w.heap.size,1,none⟩ (.slice A kt cp)).heap[w.heap.size]? = some (.cells #[.bool (decide (D.length<s.size)),.slice A kt cp] 127 (0,0)):=by
    simp [World.setCell,Array.getElem?_modify,hr]
   generalize (((Wt.setCell ⟨w.heap.size+1,1,none⟩ (.slice A kt cp)).setCell ⟨w.heap.size,0,none⟩ (.bool (decide (D.length<s.size)))).setCell ⟨w.heap.size,1,none⟩ (.slice A kt cp))=Wf at *;have he0:Wf.cell? ⟨w.heap.size,0,none⟩=some (.bool (decide (D.length<s.size))):=cell_of_row _ _ 0 _ _ _ hend;have he1:Wf.cell? ⟨w.heap.size,1,none⟩=some (.slice A kt cp):=cell_of_row _ _ 1 _ _ _ hend;refine bodyPost_ret (v := .agg #[.bool (decide (D.length<s.size)),.slice A kt cp]) ?res rfl ?_
   case res=>simp [results,Tryz.f155, go_sem,he0,he1]
   exact ⟨A,kt,cp,rfl,hn2,hB2⟩
  ·have hI2:=Lib.hid (hI.out.step hd (by omega));have hcl:((D.take p).drop (p - 4)).length=p - (p - 4):=by rw [List.length_drop,List.length_take,Nat.min_eq_left hp]
   have hcd:∀ c ∈ (D.take p).drop (p - 4),isDig c=true:=fun c hc=>hd c (List.mem_of_mem_take (List.mem_of_mem_drop hc))
   have hext:=ext_take (D.take p) (p - 4) p (by rw [List.length_take];omega);have hext0:=ext_take0 (D.take p) (p - 4);rw [List.take_take,Nat.min_eq_left (by omega)] at hext0;have hmx:max (0:Int) ((p:Int) - 4)=((p - 4:Nat):Int):=by omega
   have hl2:l.length<60:=by have:=hI2.out.len;rw [List.length_append,List.length_singleton] at this;omega
   generalize hch:(D.take p).drop (p - 4)=ch at *;have hcs:=evalD_small ch hcd (by omega);have hcn:ch≠[]:=by intro e;rw [e] at hcl;simp at hcl;omega
   have hc18:ch.length≤18:=by omega
   go_wp2_with (first
    | (go_at_call 187; go_must (refine (atoi_list ch hcd hcn hc18 _).mono ?_;rintro e w2 ⟨rfl,hb2⟩;have hx3:=(hb2.block _ hxlt).trans hx;have hy1:w2.cell? ⟨w.heap.size+1,1,none⟩=some (.slice A l.length cp):=cell_of_row _ _ 1 _ _ _ hx3;have hy2:=frozen_of_row _ _ 1 _ _ hx3))
    | (at_builtin;refine wpList_append_own _ rfl (.tmp 31) (.tmp 33) 125 rfl (w.heap.size+1+1) 3 i0 (.int .i64 0) 1 8 Tryz.underlying125 hi hz0 hz1 hz2 rfl (by decide) (.slice A l.length cp) l.length (ints l) rfl ((own_below hown hb2).alloc _) ⟨w2.heap.size,0,none⟩ 1 1 [.int .i64 (evalD ch:Nat)] rfl rfl (cell_one_new _ _ _) (by simp [Value.oneCell']) (by unfold maxLen;omega) (by omega) (by have:=hb2.size;simp;omega) ?_;intro v' w3 hown3 hgrow3 _;obtain ⟨A3,c3,rfl⟩:=own_slice hown3;have hb3:Below (w.heap.size+1+1) w2 w3:=((Below.refl _ _).alloc (by have:=hb2.size;omega) _).grown hgrow3 (by simp;have:=hb2.size;omega) (own_ge (own_below hown hb2));have hx4:=(hb3.block _ (by omega)).trans hx3;have hz1':w3.cell? ⟨w.heap.size+1,1,none⟩=some (.slice A l.length cp):=cell_of_row _ _ 1 _ _ _ hx4;have hz2':=frozen_of_row _ _ 1 _ _ hx4))
   go_roundw
   case rel =>
    have hll:(l ++ [evalD ch]).length=l.length+1:=by simp
    refine ⟨p - 4,A3,c3,l ++ [evalD ch],rfl,?_,?_,?_,?_,hI2,by omega,by rw [hll];omega⟩
    ·rw [hll];simp [World.setCell,Array.getElem?_modify,hx4]
    ·rw [Below.heap_setCell _ _ _ _ (by simp),hb3.block _ (by omega),hb2.block _ (by omega)];exact hr
    ·rw [hll,ints_append];exact ownsRow_setCell_below hown3 (by simp) _
    ·exact ((hB.trans (hb2.mono hB.size)).trans (hb3.mono (by omega))).setCell (p:=⟨w.heap.size+1,1,none⟩) (by simp) _
   case measure =>
    simp [ByteArray.size];omega
end Go.Proofs.YtdikaoahgleffaaGreatDoor
namespace Go.Proofs.YtdikaoahgleffaaGreatDoor
open Go Go.RowKit Go.Lib Go.Shelf
def IsSig (w:World) (v:Value) (neg:Bool) (x:Nat):Prop:=∃ A n c,v = .agg #[.bool neg,.slice A n c]∧IsNum w A n c x
theorem IsSig.below {w w':World} {v:Value} {neg:Bool} {x:Nat} (h:IsSig w v neg x) (hb:Below w.heap.size w w'):IsSig w' v neg x :=
 let ⟨A,n,c,e,hn⟩:=h;⟨A,n,c,e,hn.below hb⟩
theorem two_facts {W:World} {b:Nat} {v0 v1:Value} {t:TypeId} (h:W.heap[b]? = some (.cells #[v0,v1] t (0,0))) :
  W.cell? ⟨b,0,none⟩=some v0∧W.cell? ⟨b,1,none⟩=some v1∧W.frozen? ⟨b,0,none⟩=false∧W.frozen? ⟨b,1,none⟩=false :=
 ⟨cell_of_row _ _ 0 _ _ _ h,cell_of_row _ _ 1 _ _ _ h,frozen_of_row _ _ 0 _ _ h,frozen_of_row _ _ 1 _ _ h⟩
theorem IsNum.setCells {W:World} {A:Option Addr} {n c x:Nat} (h:IsNum W A n c x) {b i:Nat} {cs:List Value} {t:TypeId} (hb:W.heap[b]? = some (.cells cs.toArray t (0,0)))
  (hv:∀ v ∈ cs,∀ a y,v ≠ .int a y) (u:Value):IsNum (W.setCell ⟨b,i,none⟩ u) A n c x:=by
 obtain ⟨l,h1,h2,h3,h4⟩:=h;refine ⟨l,⟨h1.1,fun hn => ?_⟩,h2,h3,h4⟩;obtain ⟨ad,e,hlt,hc⟩:=h1.2 hn;refine ⟨ad,e,by simpa [World.setCell] using hlt,fun j u' hu => ?_⟩;have hcell:=hc j u' hu;by_cases he:(ad.add j).block=b
 ·exfalso;have hu2:∃ a y,u' = .int a y:=by
   unfold ints at hu;rw [List.getElem?_map] at hu
   cases hl:l[j]? with
   | none=>rw [hl] at hu;cases hu
   | some y=>rw [hl] at hu;simp at hu;exact ⟨_,_,hu.symm⟩
  obtain ⟨a',y',rfl⟩:=hu2;unfold World.cell? at hcell;rw [he,hb] at hcell;simp only at hcell;split at hcell
  ·cases hcell
  ·rw [List.getElem?_toArray] at hcell;exact hv _ (List.mem_of_getElem? hcell) _ _ rfl
 ·rw [World.cell?_setCell_other W _ _ u (fun e=>he (by rw [← e]))];exact hcell
theorem store_two {W:World} {b:Nat} {v0 v1:Value} {t:TypeId} (h:W.heap[b]? = some (.cells #[v0,v1] t (0,0))) (u0 u1:Value) :
  ((W.setCell ⟨b,0,none⟩ u0).setCell ⟨b,1,none⟩ u1).heap[b]? = some (.cells #[u0,u1] t (0,0)):=by
 simp [World.setCell,Array.getElem?_modify,h]
theorem IsNum.storeTwo {W:World} {A:Option Addr} {n c x:Nat} (h:IsNum W A n c x) {b:Nat} {v0 v1:Value} {t:TypeId} (hb:W.heap[b]? = some (.cells #[v0,v1] t (0,0)))
  (h0:∀ a y,v0 ≠ .int a y) (h1:∀ a y,v1 ≠ .int a y) (u0 u1:Value) (hu:∀ a y,u0 ≠ .int a y):IsNum ((W.setCell ⟨b,0,none⟩ u0).setCell ⟨b,1,none⟩ u1) A n c x:=by
 refine IsNum.setCells (cs:=[u0,v1]) (IsNum.setCells (cs:=[v0,v1]) h hb ?_ u0) (t:=t) (by simp [World.setCell,Array.getElem?_modify,hb]) ?_ u1
 ·intro v hv;simp at hv;rcases hv with rfl | rfl <;> assumption
 ·intro v hv;simp at hv;rcases hv with rfl | rfl <;> assumption
theorem two_far {W:World} {b b':Nat} (hne:b≠b') (u0 u1:Value):((W.setCell ⟨b',0,none⟩ u0).setCell ⟨b',1,none⟩ u1).heap[b]? = W.heap[b]? := by
 rw [Below.heap_setCell _ _ _ _ hne,Below.heap_setCell _ _ _ _ hne]
theorem size_list (s:ByteArray):s.size=s.data.toList.length:=by rw [Array.length_toList];rfl
theorem itoa_length (z:Int):decide ((decDigits z.natAbs).length<(itoa z).length)=decide (z<0):=by
 congr 1;rcases Int.lt_or_le z 0 with h | h
 ·have e:z = -(z.natAbs:Int):=by omega
  have:(itoa z).length=(decDigits z.natAbs).length+1:=by
   rw [e,itoa_ng _ (by omega)];simp
  rw [this];simp [h]
 ·have e:z=(z.natAbs:Int):=by omega
  have:(itoa z).length=(decDigits z.natAbs).length:=by
   conv=>lhs;rw [e]
   rw [itoa_nn]
  rw [this];have h2:¬ z<0:=by omega
  simp [h2]
theorem parse_z (s:ByteArray) (z:Int) (w:World) (hs:s.data.toList=itoa z) (hf:Fits z) :
  Calls Tryz.prog 155 #[.string s] w fun e w'=>∃ v,e = .returned v∧IsSig w' v (decide (z<0)) z.natAbs∧Below w.heap.size w w':=by
 have hb:body s.data.toList=decDigits z.natAbs:=by rw [hs,body_itoa]
 refine (parse_any s w (by rw [hb];exact decDigits_dig _) (by rw [hb];exact (fits_iff z).2 hf)).mono ?_;rintro e w' ⟨A,n,c,rfl,hn,hB⟩;rw [hb,evalD_decDigits] at hn;refine ⟨_,rfl,⟨A,n,c,?_,hn⟩,hB⟩;rw [hb,size_list,hs,itoa_length]
theorem isValid_true (s:ByteArray) (w:World) (hs:s.size≤9223372036854775807) (hv:validB s.data.toList=true) :
  Calls Tryz.prog 154 #[.string s] w fun e w'=>e = .returned (.bool true)∧Below w.heap.size w w':=by
 have:=isValid_any s w hs
 rwa [hv] at this
theorem two_new (w:World) (v:Array Value) (t:TypeId):((w.alloc (.cells v t)).alloc (.cells v t)).heap[w.heap.size]? = some (.cells v t (0,0))∧((w.alloc (.cells v t)).alloc (.cells v t)).heap[w.heap.size+1]? = some (.cells v t (0,0)):=by
 constructor
 ·rw [Below.heap_alloc _ _ _ (by simp)];exact heap_alloc_new _ _
 ·have:w.heap.size+1=(w.alloc (.cells v t)).heap.size:=by simp
  rw [this];exact heap_alloc_new _ _
theorem both_ok (a b:ByteArray) (x y:Int) (w:World) (ha:a.data.toList=itoa x) (hb:b.data.toList=itoa y) (hx:Fits x) (hy:Fits y)
  (hsa:a.size≤9223372036854775807) (hsb:b.size≤9223372036854775807) :
  Calls Tryz.prog 104 #[.string a,.string b] w fun e w'=>∃ u v,e = .returned (.tuple #[u,v,.bool true])∧IsSig w' u (decide (x<0)) x.natAbs∧IsSig w' v (decide (y<0)) y.natAbs∧Below w.heap.size w w':=by
 have hva:validB a.data.toList=true:=by rw [ha];exact validB_itoa x hx
 have hvb:validB b.data.toList=true:=by rw [hb];exact validB_itoa y hy
 obtain ⟨hn0,hn1⟩:=two_new w #[.bool false,.slice none 0 0] 127;have hB0:=below2 w (.cells #[.bool false,.slice none 0 0] 127) (.cells #[.bool false,.slice none 0 0] 127);go_enter Tryz.func104, Tryz.ntmps104;go_wp2_with (first
  | (go_at_call_of 154 (Value.string a);generalize ((w.alloc (.cells #[.bool false,.slice none 0 0] 127)).alloc (.cells #[.bool false,.slice none 0 0] 127))=W0 at *;refine (isValid_true a _ hsa hva).mono ?_;rintro e w1 ⟨rfl,hb1⟩)
  | (go_at_call_of 154 (Value.string b);refine (isValid_true b _ hsb hvb).mono ?_;rintro e w2 ⟨rfl,hb2⟩)
  | (go_at_call_of 155 (Value.string a);refine (parse_z a x _ ha hx).mono ?_;rintro e w3 ⟨u,rfl,hu,hb3⟩)
  | (go_at_call_of 155 (Value.string b);refine (parse_z b y _ hb hy).mono ?_;rintro e w4 ⟨v,rfl,hv,hb4⟩;have hb14:Below W0.heap.size W0 w4:=((hb1.trans (hb2.mono hb1.size)).trans (hb3.mono (hb1.trans (hb2.mono hb1.size)).size)).trans (hb4.mono ((hb1.trans (hb2.mono hb1.size)).trans (hb3.mono (hb1.trans (hb2.mono hb1.size)).size)).size);have hm0:=(hb14.block _ (Array.getElem?_eq_some_iff.1 hn0).1).trans hn0;have hm1:=(hb14.block _ (Array.getElem?_eq_some_iff.1 hn1).1).trans hn1;obtain ⟨c1,c2,c3,c4⟩:=two_facts hm0;obtain ⟨c5,c6,c7,c8⟩:=two_facts hm1;obtain ⟨A1,n1,k1,rfl,hu1⟩:=hu;obtain ⟨A2,n2,k2,rfl,hv1⟩:=hv))
 have hs0:=store_two hm0 (.bool (decide (x<0))) (.slice A1 n1 k1);have hs1:=(two_far (b:=w.heap.size+1) (b':=w.heap.size) (by omega) (.bool (decide (x<0))) (.slice A1 n1 k1)).trans hm1;have hu2:=(hu1.below hb4).storeTwo hm0 (fun _ _ e=>by cases e) (fun _ _ e=>by cases e) (.bool (decide (x<0))) (.slice A1 n1 k1) (fun _ _ e=>by cases e);have hv2:=hv1.storeTwo hm0 (fun _ _ e=>by cases e) (fun _ _ e=>by cases e) (.bool (decide (x<0))) (.slice A1 n1 k1) (fun _ _ e=>by cases e);have hB5:=((hB0.trans (hb14.mono hB0.size)).setCell (p:=⟨w.heap.size,0,none⟩) (by simp) (.bool (decide (x<0)))).setCell (p:=⟨w.heap.size,1,none⟩) (by simp) (.slice A1 n1 k1);generalize ((w4.setCell ⟨w.heap.size,0,none⟩ (.bool (decide (x<0)))).setCell ⟨w.heap.size,1,none⟩ (.slice A1 n1 k1))=w5 at *;have ht0:=(two_far (b:=w.heap.size) (b':=w.heap.size+1) (by omega) (.bool (decide (y<0))) (.slice A2 n2 k2)).trans hs0;have ht1:=store_two hs1 (.bool (decide (y<0))) (.slice A2 n2 k2);have hu3:=hu2.storeTwo hs1 (fun _ _ e=>by cases e) (fun _ _ e=>by cases e) (.bool (decide (y<0))) (.slice A2 n2 k2) (fun _ _ e=>by cases e);have hv3:=hv2.storeTwo hs1 (fun _ _ e=>by cases e) (fun _ _ e=>by cases e) (.bool (decide (y<0))) (.slice A2 n2 k2) (fun _ _ e=>by cases e);have hB6:=(hB5.setCell (p:=⟨w.heap.size+1,0,none⟩) (by simp) (.bool (decide (y<0)))).setCell (p:=⟨w.heap.size+1,1,none⟩) (by simp) (.slice A2 n2 k2);generalize ((w5.setCell ⟨w.heap.size+1,0,none⟩ (.bool (decide (y<0)))).setCell ⟨w.heap.size+1,1,none⟩ (.slice A2 n2 k2))=w6 at *
 obtain ⟨f1,f2,_,_⟩:=two_facts ht0;obtain ⟨f3,f4,_,_⟩:=two_facts ht1;refine bodyPost_ret (v := .tuple #[.agg #[.bool (decide (x<0)),.slice A1 n1 k1],.agg #[.bool (decide (y<0)),.slice A2 n2 k2],.bool true]) ?res rfl ?_
 case res=>simp [results,Tryz.f104, go_sem,f1,f2,f3,f4]
 exact ⟨_,_,rfl,⟨A1,n1,k1,rfl,hu3⟩,⟨A2,n2,k2,rfl,hv3⟩,hB6⟩
end Go.Proofs.YtdikaoahgleffaaGreatDoor
namespace Go.Proofs.YtdikaoahgleffaaGreatDoor
open Go Go.RowKit Go.Lib Go.Shelf
def sv (neg:Bool) (x:Nat):Int:=if neg then -(x:Int) else x
theorem sv_abs (z:Int):sv (decide (z<0)) z.natAbs=z:=by
 unfold sv;by_cases h:z<0
 ·simp [h];omega
 ·simp [h];omega
theorem three_new (w:World) (u v r:Array Value) (t:TypeId) :
  (((w.alloc (.cells u t)).alloc (.cells v t)).alloc (.cells r t)).heap[w.heap.size]? = some (.cells u t (0,0))∧(((w.alloc (.cells u t)).alloc (.cells v t)).alloc (.cells r t)).heap[w.heap.size+1]? = some (.cells v t (0,0))
   ∧ (((w.alloc (.cells u t)).alloc (.cells v t)).alloc (.cells r t)).heap[w.heap.size+1+1]? = some (.cells r t (0,0))∧Below w.heap.size w (((w.alloc (.cells u t)).alloc (.cells v t)).alloc (.cells r t)):=by
 refine ⟨?_,?_,?_,(((Below.refl _ w).alloc (Nat.le_refl _) _).alloc (by simp) _).alloc (by simp;omega) _⟩
 ·rw [Below.heap_alloc _ _ _ (by simp;omega),Below.heap_alloc _ _ _ (by simp)];exact heap_alloc_new _ _
 ·rw [Below.heap_alloc _ _ _ (by simp)];have:w.heap.size+1=(w.alloc (.cells u t)).heap.size:=by simp
  rw [this];exact heap_alloc_new _ _
 ·have:w.heap.size+1+1=((w.alloc (.cells u t)).alloc (.cells v t)).heap.size:=by simp
  rw [this];exact heap_alloc_new _ _
theorem splus_any (u v:Value) (nu nv:Bool) (x y:Nat) (w:World) (hu:IsSig w u nu x) (hv:IsSig w v nv y) (hx:Mod x) (hy:Mod y) :
  Calls Tryz.prog 105 #[u,v] w fun e w'=>∃ r nr z,e = .returned r∧IsSig w' r nr z∧sv nr z=sv nu x+sv nv y∧Below w.heap.size w w':=by
 have hmx:Tryz.prog.follows .mixedOrders=true:=by kernel_rfl
 obtain ⟨A1,n1,k1,rfl,hu⟩:=hu;obtain ⟨A2,n2,k2,rfl,hv⟩:=hv;obtain ⟨hn0,hn1,hn2,hB0⟩:=three_new w #[.bool nu,.slice A1 n1 k1] #[.bool nv,.slice A2 n2 k2] #[.bool false,.slice none 0 0] 127;have hu0:=hu.below hB0;have hv0:=hv.below hB0;obtain ⟨c1,c2,_,_⟩:=two_facts hn0;obtain ⟨c3,c4,_,_⟩:=two_facts hn1
 cases nu <;> cases nv
 ·have hsum:sv false (x+y)=sv false x+sv false y:=by simp [sv];try omega
  go_enter Tryz.func105, Tryz.ntmps105;go_wp2;generalize (((w.alloc (.cells #[.bool false,.slice A1 n1 k1] 127)).alloc (.cells #[.bool false,.slice A2 n2 k2] 127)).alloc (.cells #[.bool false,.slice none 0 0] 127))=W0 at *;go_region_held3 (fun X=>X.cell? ⟨w.heap.size,0,none⟩=some (.bool false)∧X.cell? ⟨w.heap.size,1,none⟩=some (.slice A1 n1 k1)∧X.cell? ⟨w.heap.size+1,0,none⟩=some (.bool false)∧X.cell? ⟨w.heap.size+1,1,none⟩=some (.slice A2 n2 k2)) (first | exact ⟨c1,c2,c3,c4⟩ | exact ⟨d1,d2,d3,d4⟩ | (refine ⟨?_,?_,?_,?_⟩ <;> (rw [World.cell?_setCell_other _ _ _ _ (by simp <;> omega),World.cell?_setCell_other _ _ _ _ (by simp <;> omega)];first | exact d1 | exact d2 | exact d3 | exact d4))) (first | (go_at_call 156; refine (plus_any A1 A2 n1 k1 n2 k2 x y _ (by exact hu0) (by exact hv0) hx hy).mono ?_;rintro e W2 ⟨A3,n3,k3,rfl,h3,hb3'⟩;have hb3:=below_of_drew hb3';have g0:=(hb3.block _ (Array.getElem?_eq_some_iff.1 hn0).1).trans hn0;have g1:=(hb3.block _ (Array.getElem?_eq_some_iff.1 hn1).1).trans hn1;have g2:=(hb3.block _ (Array.getElem?_eq_some_iff.1 hn2).1).trans hn2;obtain ⟨d1,d2,_,_⟩:=two_facts g0;obtain ⟨d3,d4,_,_⟩:=two_facts g1;obtain ⟨d5,d6,d7,d8⟩:=two_facts g2));go_wp2;have hB3:=hB0.trans (hb3.mono hB0.size);have hst:=store_two g2 (.bool false) (.slice A3 n3 k3);have hnn:=h3.storeTwo g2 (fun _ _ e=>by cases e) (fun _ _ e=>by cases e) (.bool false) (.slice A3 n3 k3) (fun _ _ e=>by cases e)
  have hB4:=(hB3.setCell (p:=⟨w.heap.size+1+1,0,none⟩) (by simp;omega) (.bool false)).setCell (p:=⟨w.heap.size+1+1,1,none⟩) (by simp;omega) (.slice A3 n3 k3);generalize ((W2.setCell ⟨w.heap.size+1+1,0,none⟩ (.bool false)).setCell ⟨w.heap.size+1+1,1,none⟩ (.slice A3 n3 k3))=Wf at *;obtain ⟨f1,f2,_,_⟩:=two_facts hst;refine bodyPost_ret (v := .agg #[.bool false,.slice A3 n3 k3]) ?res rfl ?_
  case res=>simp [results,Tryz.f105, go_sem,f1,f2]
  exact ⟨_,false,(x+y),rfl,⟨A3,n3,k3,rfl,hnn⟩,hsum,hB4⟩
 ·by_cases hxy:y≤x
  ·have hsum:sv false (x - y)=sv false x+sv true y:=by simp [sv];try omega
   have hcz:0≤cmpZ x y:=by unfold cmpZ;split <;> (try split) <;> omega
   go_enter Tryz.func105, Tryz.ntmps105;go_wp2_with (go_at_call 157; generalize (((w.alloc (.cells #[.bool false,.slice A1 n1 k1] 127)).alloc (.cells #[.bool true,.slice A2 n2 k2] 127)).alloc (.cells #[.bool false,.slice none 0 0] 127))=W0 at *;refine (compare_any A1 A2 n1 k1 n2 k2 x y _ hu0 hv0 hx hy).mono ?_;rintro e W1 ⟨rfl,hb1⟩;have hn0:=(hb1.block _ (Array.getElem?_eq_some_iff.1 hn0).1).trans hn0;have hn1:=(hb1.block _ (Array.getElem?_eq_some_iff.1 hn1).1).trans hn1;have hn2:=(hb1.block _ (Array.getElem?_eq_some_iff.1 hn2).1).trans hn2;have hu0:=hu0.below hb1;have hv0:=hv0.below hb1;have hB0:=hB0.trans (hb1.mono hB0.size);obtain ⟨c1,c2,_,_⟩:=two_facts hn0;obtain ⟨c3,c4,_,_⟩:=two_facts hn1);go_region_held3 (fun X=>X.cell? ⟨w.heap.size,0,none⟩=some (.bool false)∧X.cell? ⟨w.heap.size,1,none⟩=some (.slice A1 n1 k1)∧X.cell? ⟨w.heap.size+1,0,none⟩=some (.bool true)∧X.cell? ⟨w.heap.size+1,1,none⟩=some (.slice A2 n2 k2)) (first | exact ⟨c1,c2,c3,c4⟩ | exact ⟨d1,d2,d3,d4⟩ | (refine ⟨?_,?_,?_,?_⟩ <;> (rw [World.cell?_setCell_other _ _ _ _ (by simp <;> omega),World.cell?_setCell_other _ _ _ _ (by simp <;> omega)];first | exact d1 | exact d2 | exact d3 | exact d4))) (first | (go_at_call 158; refine (minus_any A1 A2 n1 k1 n2 k2 x y _ (by exact hu0) (by exact hv0) hx hy hxy).mono ?_;rintro e W2 ⟨A3,n3,k3,rfl,h3,hb3'⟩;have hb3:=below_of_drew hb3';have g0:=(hb3.block _ (Array.getElem?_eq_some_iff.1 hn0).1).trans hn0;have g1:=(hb3.block _ (Array.getElem?_eq_some_iff.1 hn1).1).trans hn1;have g2:=(hb3.block _ (Array.getElem?_eq_some_iff.1 hn2).1).trans hn2;obtain ⟨d1,d2,_,_⟩:=two_facts g0;obtain ⟨d3,d4,_,_⟩:=two_facts g1;obtain ⟨d5,d6,d7,d8⟩:=two_facts g2))
   go_wp2;have hB3:=hB0.trans (hb3.mono hB0.size);have hst:=store_two g2 (.bool false) (.slice A3 n3 k3);have hnn:=h3.storeTwo g2 (fun _ _ e=>by cases e) (fun _ _ e=>by cases e) (.bool false) (.slice A3 n3 k3) (fun _ _ e=>by cases e);have hB4:=(hB3.setCell (p:=⟨w.heap.size+1+1,0,none⟩) (by simp;omega) (.bool false)).setCell (p:=⟨w.heap.size+1+1,1,none⟩) (by simp;omega) (.slice A3 n3 k3);generalize ((W2.setCell ⟨w.heap.size+1+1,0,none⟩ (.bool false)).setCell ⟨w.heap.size+1+1,1,none⟩ (.slice A3 n3 k3))=Wf at *;obtain ⟨f1,f2,_,_⟩:=two_facts hst;refine bodyPost_ret (v := .agg #[.bool false,.slice A3 n3 k3]) ?res rfl ?_
   case res=>simp [results,Tryz.f105, go_sem,f1,f2]
   exact ⟨_,false,(x - y),rfl,⟨A3,n3,k3,rfl,hnn⟩,hsum,hB4⟩
  ·have hsum:sv true (y - x)=sv false x+sv true y:=by simp [sv];try omega
   have hcz:cmpZ x y<0:=by unfold cmpZ;split <;> (try split) <;> omega
   go_enter Tryz.func105, Tryz.ntmps105;go_wp2_with (go_at_call 157; generalize (((w.alloc (.cells #[.bool false,.slice A1 n1 k1] 127)).alloc (.cells #[.bool true,.slice A2 n2 k2] 127)).alloc (.cells #[.bool false,.slice none 0 0] 127))=W0 at *;refine (compare_any A1 A2 n1 k1 n2 k2 x y _ hu0 hv0 hx hy).mono ?_;rintro e W1 ⟨rfl,hb1⟩;have hn0:=(hb1.block _ (Array.getElem?_eq_some_iff.1 hn0).1).trans hn0;have hn1:=(hb1.block _ (Array.getElem?_eq_some_iff.1 hn1).1).trans hn1;have hn2:=(hb1.block _ (Array.getElem?_eq_some_iff.1 hn2).1).trans hn2;have hu0:=hu0.below hb1;have hv0:=hv0.below hb1;have hB0:=hB0.trans (hb1.mono hB0.size);obtain ⟨c1,c2,_,_⟩:=two_facts hn0;obtain ⟨c3,c4,_,_⟩:=two_facts hn1);go_region_held3 (fun X=>X.cell? ⟨w.heap.size,0,none⟩=some (.bool false)∧X.cell? ⟨w.heap.size,1,none⟩=some (.slice A1 n1 k1)∧X.cell? ⟨w.heap.size+1,0,none⟩=some (.bool true)∧X.cell? ⟨w.heap.size+1,1,none⟩=some (.slice A2 n2 k2)) (first | exact ⟨c1,c2,c3,c4⟩ | exact ⟨d1,d2,d3,d4⟩ | (refine ⟨?_,?_,?_,?_⟩ <;> (rw [World.cell?_setCell_other _ _ _ _ (by simp <;> omega),World.cell?_setCell_other _ _ _ _ (by simp <;> omega)];first | exact d1 | exact d2 | exact d3 | exact d4))) (first | (go_at_call 158; refine (minus_any A2 A1 n2 k2 n1 k1 y x _ (by exact hv0) (by exact hu0) hy hx (by omega)).mono ?_;rintro e W2 ⟨A3,n3,k3,rfl,h3,hb3'⟩;have hb3:=below_of_drew hb3';have g0:=(hb3.block _ (Array.getElem?_eq_some_iff.1 hn0).1).trans hn0;have g1:=(hb3.block _ (Array.getElem?_eq_some_iff.1 hn1).1).trans hn1;have g2:=(hb3.block _ (Array.getElem?_eq_some_iff.1 hn2).1).trans hn2;obtain ⟨d1,d2,_,_⟩:=two_facts g0;obtain ⟨d3,d4,_,_⟩:=two_facts g1;obtain ⟨d5,d6,d7,d8⟩:=two_facts g2))
   go_wp2;have hB3:=hB0.trans (hb3.mono hB0.size);have hst:=store_two g2 (.bool true) (.slice A3 n3 k3);have hnn:=h3.storeTwo g2 (fun _ _ e=>by cases e) (fun _ _ e=>by cases e) (.bool true) (.slice A3 n3 k3) (fun _ _ e=>by cases e);have hB4:=(hB3.setCell (p:=⟨w.heap.size+1+1,0,none⟩) (by simp;omega) (.bool true)).setCell (p:=⟨w.heap.size+1+1,1,none⟩) (by simp;omega) (.slice A3 n3 k3);generalize ((W2.setCell ⟨w.heap.size+1+1,0,none⟩ (.bool true)).setCell ⟨w.heap.size+1+1,1,none⟩ (.slice A3 n3 k3))=Wf at *;obtain ⟨f1,f2,_,_⟩:=two_facts hst;refine bodyPost_ret (v := .agg #[.bool true,.slice A3 n3 k3]) ?res rfl ?_
   case res=>simp [results,Tryz.f105, go_sem,f1,f2]
   exact ⟨_,true,(y - x),rfl,⟨A3,n3,k3,rfl,hnn⟩,hsum,hB4⟩
 ·by_cases hxy:y≤x
  ·have hsum:sv true (x - y)=sv true x+sv false y:=by simp [sv];try omega
   have hcz:0≤cmpZ x y:=by unfold cmpZ;split <;> (try split) <;> omega
   go_enter Tryz.func105, Tryz.ntmps105;go_wp2_with (go_at_call 157; generalize (((w.alloc (.cells #[.bool true,.slice A1 n1 k1] 127)).alloc (.cells #[.bool false,.slice A2 n2 k2] 127)).alloc (.cells #[.bool false,.slice none 0 0] 127))=W0 at *;refine (compare_any A1 A2 n1 k1 n2 k2 x y _ hu0 hv0 hx hy).mono ?_;rintro e W1 ⟨rfl,hb1⟩;have hn0:=(hb1.block _ (Array.getElem?_eq_some_iff.1 hn0).1).trans hn0;have hn1:=(hb1.block _ (Array.getElem?_eq_some_iff.1 hn1).1).trans hn1;have hn2:=(hb1.block _ (Array.getElem?_eq_some_iff.1 hn2).1).trans hn2;have hu0:=hu0.below hb1;have hv0:=hv0.below hb1;have hB0:=hB0.trans (hb1.mono hB0.size);obtain ⟨c1,c2,_,_⟩:=two_facts hn0;obtain ⟨c3,c4,_,_⟩:=two_facts hn1);go_region_held3 (fun X=>X.cell? ⟨w.heap.size,0,none⟩=some (.bool true)∧X.cell? ⟨w.heap.size,1,none⟩=some (.slice A1 n1 k1)∧X.cell? ⟨w.heap.size+1,0,none⟩=some (.bool false)∧X.cell? ⟨w.heap.size+1,1,none⟩=some (.slice A2 n2 k2)) (first | exact ⟨c1,c2,c3,c4⟩ | exact ⟨d1,d2,d3,d4⟩ | (refine ⟨?_,?_,?_,?_⟩ <;> (rw [World.cell?_setCell_other _ _ _ _ (by simp <;> omega),World.cell?_setCell_other _ _ _ _ (by simp <;> omega)];first | exact d1 | exact d2 | exact d3 | exact d4))) (first | (go_at_call 158; refine (minus_any A1 A2 n1 k1 n2 k2 x y _ (by exact hu0) (by exact hv0) hx hy hxy).mono ?_;rintro e W2 ⟨A3,n3,k3,rfl,h3,hb3'⟩;have hb3:=below_of_drew hb3';have g0:=(hb3.block _ (Array.getElem?_eq_some_iff.1 hn0).1).trans hn0;have g1:=(hb3.block _ (Array.getElem?_eq_some_iff.1 hn1).1).trans hn1;have g2:=(hb3.block _ (Array.getElem?_eq_some_iff.1 hn2).1).trans hn2;obtain ⟨d1,d2,_,_⟩:=two_facts g0;obtain ⟨d3,d4,_,_⟩:=two_facts g1;obtain ⟨d5,d6,d7,d8⟩:=two_facts g2))
   go_wp2;have hB3:=hB0.trans (hb3.mono hB0.size);have hst:=store_two g2 (.bool true) (.slice A3 n3 k3);have hnn:=h3.storeTwo g2 (fun _ _ e=>by cases e) (fun _ _ e=>by cases e) (.bool true) (.slice A3 n3 k3) (fun _ _ e=>by cases e);have hB4:=(hB3.setCell (p:=⟨w.heap.size+1+1,0,none⟩) (by simp;omega) (.bool true)).setCell (p:=⟨w.heap.size+1+1,1,none⟩) (by simp;omega) (.slice A3 n3 k3);generalize ((W2.setCell ⟨w.heap.size+1+1,0,none⟩ (.bool true)).setCell ⟨w.heap.size+1+1,1,none⟩ (.slice A3 n3 k3))=Wf at *;obtain ⟨f1,f2,_,_⟩:=two_facts hst;refine bodyPost_ret (v := .agg #[.bool true,.slice A3 n3 k3]) ?res rfl ?_
   case res=>simp [results,Tryz.f105, go_sem,f1,f2]
   exact ⟨_,true,(x - y),rfl,⟨A3,n3,k3,rfl,hnn⟩,hsum,hB4⟩
  ·have hsum:sv false (y - x)=sv true x+sv false y:=by simp [sv];try omega
   have hcz:cmpZ x y<0:=by unfold cmpZ;split <;> (try split) <;> omega
   go_enter Tryz.func105, Tryz.ntmps105;go_wp2_with (go_at_call 157; generalize (((w.alloc (.cells #[.bool true,.slice A1 n1 k1] 127)).alloc (.cells #[.bool false,.slice A2 n2 k2] 127)).alloc (.cells #[.bool false,.slice none 0 0] 127))=W0 at *;refine (compare_any A1 A2 n1 k1 n2 k2 x y _ hu0 hv0 hx hy).mono ?_;rintro e W1 ⟨rfl,hb1⟩;have hn0:=(hb1.block _ (Array.getElem?_eq_some_iff.1 hn0).1).trans hn0;have hn1:=(hb1.block _ (Array.getElem?_eq_some_iff.1 hn1).1).trans hn1;have hn2:=(hb1.block _ (Array.getElem?_eq_some_iff.1 hn2).1).trans hn2;have hu0:=hu0.below hb1;have hv0:=hv0.below hb1;have hB0:=hB0.trans (hb1.mono hB0.size);obtain ⟨c1,c2,_,_⟩:=two_facts hn0;obtain ⟨c3,c4,_,_⟩:=two_facts hn1);go_region_held3 (fun X=>X.cell? ⟨w.heap.size,0,none⟩=some (.bool true)∧X.cell? ⟨w.heap.size,1,none⟩=some (.slice A1 n1 k1)∧X.cell? ⟨w.heap.size+1,0,none⟩=some (.bool false)∧X.cell? ⟨w.heap.size+1,1,none⟩=some (.slice A2 n2 k2)) (first | exact ⟨c1,c2,c3,c4⟩ | exact ⟨d1,d2,d3,d4⟩ | (refine ⟨?_,?_,?_,?_⟩ <;> (rw [World.cell?_setCell_other _ _ _ _ (by simp <;> omega),World.cell?_setCell_other _ _ _ _ (by simp <;> omega)];first | exact d1 | exact d2 | exact d3 | exact d4))) (first | (go_at_call 158; refine (minus_any A2 A1 n2 k2 n1 k1 y x _ (by exact hv0) (by exact hu0) hy hx (by omega)).mono ?_;rintro e W2 ⟨A3,n3,k3,rfl,h3,hb3'⟩;have hb3:=below_of_drew hb3';have g0:=(hb3.block _ (Array.getElem?_eq_some_iff.1 hn0).1).trans hn0;have g1:=(hb3.block _ (Array.getElem?_eq_some_iff.1 hn1).1).trans hn1;have g2:=(hb3.block _ (Array.getElem?_eq_some_iff.1 hn2).1).trans hn2;obtain ⟨d1,d2,_,_⟩:=two_facts g0;obtain ⟨d3,d4,_,_⟩:=two_facts g1;obtain ⟨d5,d6,d7,d8⟩:=two_facts g2))
   go_wp2;have hB3:=hB0.trans (hb3.mono hB0.size);have hst:=store_two g2 (.bool false) (.slice A3 n3 k3);have hnn:=h3.storeTwo g2 (fun _ _ e=>by cases e) (fun _ _ e=>by cases e) (.bool false) (.slice A3 n3 k3) (fun _ _ e=>by cases e);have hB4:=(hB3.setCell (p:=⟨w.heap.size+1+1,0,none⟩) (by simp;omega) (.bool false)).setCell (p:=⟨w.heap.size+1+1,1,none⟩) (by simp;omega) (.slice A3 n3 k3);generalize ((W2.setCell ⟨w.heap.size+1+1,0,none⟩ (.bool false)).setCell ⟨w.heap.size+1+1,1,none⟩ (.slice A3 n3 k3))=Wf at *;obtain ⟨f1,f2,_,_⟩:=two_facts hst;refine bodyPost_ret (v := .agg #[.bool false,.slice A3 n3 k3]) ?res rfl ?_
   case res=>simp [results,Tryz.f105, go_sem,f1,f2]
   exact ⟨_,false,(y - x),rfl,⟨A3,n3,k3,rfl,hnn⟩,hsum,hB4⟩
 ·have hsum:sv true (x+y)=sv true x+sv true y:=by simp [sv];try omega
  go_enter Tryz.func105, Tryz.ntmps105;go_wp2;generalize (((w.alloc (.cells #[.bool true,.slice A1 n1 k1] 127)).alloc (.cells #[.bool true,.slice A2 n2 k2] 127)).alloc (.cells #[.bool false,.slice none 0 0] 127))=W0 at *;go_region_held3 (fun X=>X.cell? ⟨w.heap.size,0,none⟩=some (.bool true)∧X.cell? ⟨w.heap.size,1,none⟩=some (.slice A1 n1 k1)∧X.cell? ⟨w.heap.size+1,0,none⟩=some (.bool true)∧X.cell? ⟨w.heap.size+1,1,none⟩=some (.slice A2 n2 k2)) (first | exact ⟨c1,c2,c3,c4⟩ | exact ⟨d1,d2,d3,d4⟩ | (refine ⟨?_,?_,?_,?_⟩ <;> (rw [World.cell?_setCell_other _ _ _ _ (by simp <;> omega),World.cell?_setCell_other _ _ _ _ (by simp <;> omega)];first | exact d1 | exact d2 | exact d3 | exact d4))) (first | (go_at_call 156; refine (plus_any A1 A2 n1 k1 n2 k2 x y _ (by exact hu0) (by exact hv0) hx hy).mono ?_;rintro e W2 ⟨A3,n3,k3,rfl,h3,hb3'⟩;have hb3:=below_of_drew hb3';have g0:=(hb3.block _ (Array.getElem?_eq_some_iff.1 hn0).1).trans hn0;have g1:=(hb3.block _ (Array.getElem?_eq_some_iff.1 hn1).1).trans hn1;have g2:=(hb3.block _ (Array.getElem?_eq_some_iff.1 hn2).1).trans hn2;obtain ⟨d1,d2,_,_⟩:=two_facts g0;obtain ⟨d3,d4,_,_⟩:=two_facts g1;obtain ⟨d5,d6,d7,d8⟩:=two_facts g2));go_wp2;have hB3:=hB0.trans (hb3.mono hB0.size);have hst:=store_two g2 (.bool true) (.slice A3 n3 k3);have hnn:=h3.storeTwo g2 (fun _ _ e=>by cases e) (fun _ _ e=>by cases e) (.bool true) (.slice A3 n3 k3) (fun _ _ e=>by cases e)
  have hB4:=(hB3.setCell (p:=⟨w.heap.size+1+1,0,none⟩) (by simp;omega) (.bool true)).setCell (p:=⟨w.heap.size+1+1,1,none⟩) (by simp;omega) (.slice A3 n3 k3);generalize ((W2.setCell ⟨w.heap.size+1+1,0,none⟩ (.bool true)).setCell ⟨w.heap.size+1+1,1,none⟩ (.slice A3 n3 k3))=Wf at *;obtain ⟨f1,f2,_,_⟩:=two_facts hst;refine bodyPost_ret (v := .agg #[.bool true,.slice A3 n3 k3]) ?res rfl ?_
  case res=>simp [results,Tryz.f105, go_sem,f1,f2]
  exact ⟨_,true,(x+y),rfl,⟨A3,n3,k3,rfl,hnn⟩,hsum,hB4⟩
end Go.Proofs.YtdikaoahgleffaaGreatDoor
