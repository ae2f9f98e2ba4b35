/-
 The reference implementation: trim, text and Made.
-/
import Derived.Deep.DeepMust
import Derived.Deep.RegionHeld3
import Derived.IntWalk
import Derived.Laws.BytesArg
import Derived.Lib.IndexBytes
import Derived.Lib.UnsafeStr
import Derived.Test.YtdikaoahgleffaaGreatDoorWCmp
import Derived.Test.YtdikaoahgleffaaGreatDoorWPlain3
set_option maxRecDepth 100000
set_option maxHeartbeats 2000000
namespace Go.Proofs.YtdikaoahgleffaaGreatDoor
open Go Go.RowKit Go.Lib
theorem trim_take {l:List Nat} {k:Nat}:(0<k→l.getD (k - 1) 0≠0)→(∀ j,k≤j→l.getD j 0=0)→Small10 l→k≤l.length→Norm10 (l.take k)∧val10 (l.take k)=val10 l :=
 fun h1 h2 h3 h4=>⟨norm10_take h3 k h4 h1,val10_zeros l k h2⟩
theorem trim_any (A:Option Addr) (n c:Nat) (l:List Nat) (w:World) (h:NumV w A n l) (hn:n≤1000000) (hcap:n≤c) (hs:Small10 l) :
  Calls Tryz.prog 204 #[.slice A n c] w fun e w'=>(∃ k,e = .returned (.slice A k c)∧k≤n∧NumV w A k (l.take k)∧Norm10 (l.take k)∧val10 (l.take k)=val10 l)∧w'=w:=by
 have hl:=h.len;have H:=Lib.hid h;have HL:=Lib.hid hl;clear hl h;go_enter Tryz.func204, Tryz.ntmps204;go_wp2;go_loop [0] (fun v=>∃ k:Nat,k≤n∧v = .slice A k c∧Hid (∀ j,k≤j→l.getD j 0=0)) (fun v=>match v with | .slice _ k _=>k | _=>0)
 case atStart=>exact ⟨n,Nat.le_refl _,rfl,fun j hj=>by rw [List.getD_eq_getElem?_getD,List.getElem?_eq_none (by have:=HL.out;omega)];rfl⟩
 case round =>
  obtain ⟨k,hk,rfl,hz⟩:=hrel;rcases Nat.eq_zero_or_pos k with rfl | hp
  ·go_wp2;go_ret;obtain ⟨h1,h2⟩:=trim_take (l:=l) (k:=0) (fun h=>absurd h (by omega)) hz hs (by omega);exact ⟨⟨0,rfl,by omega,H.out.take (by omega),h1,h2⟩,rfl⟩
  ·obtain ⟨ad,hA,_,hc⟩:=H.out.cell (k - 1) (by omega);subst hA;by_cases h0:l.getD (k - 1) 0=0
   ·rw [h0] at hc;have HZ:=Lib.hid h0;clear h0;go_wp2;go_round
    case rel=>exact ⟨k - 1,by omega,by first | rfl | go_num,fun j hj=>by
     rcases Nat.eq_or_lt_of_le hj with e | e
     ·rw [← e];exact HZ.out
     ·exact hz j (by omega)⟩
    case measure=>simp;try omega
   ·have hb:((l.getD (k - 1) 0:Nat):Int)≠0:=by omega
    generalize hg:((l.getD (k - 1) 0:Nat):Int)=d at *;have hd:(d == 0)=false:=by simpa using hb
    have HB:=Lib.hid h0;have HG:=Lib.hid hg;clear h0 hg hb;go_wp2;go_ret;obtain ⟨h1,h2⟩:=trim_take (l:=l) (k:=k) (fun _=>HB.out) hz hs (by have:=HL.out;omega);exact ⟨⟨k,rfl,hk,H.out.take hk,h1,h2⟩,rfl⟩
theorem byteInfo:(Tryz.prog.info? 5).map (fun i=>(i.zero,i.size,i.bytes))=some (some (.int .u8 0),1,1):=by kernel_rfl
theorem byteCells_snoc (l:List UInt8) (d:Nat) (hd:d<256):byteCells l ++ [.int .u8 (d:Int)]=byteCells (l ++ [UInt8.ofNat d]):=by
 unfold byteCells;rw [List.map_append];congr 1;simp [Nat.mod_eq_of_lt hd]
theorem conv_own {w:World} {base n c:Nat} {A:Option Addr} {bs:List UInt8} (h:w.ownsRow base 5 1 (.slice A n c) n (byteCells bs)) (hn:0<n) :
  (convert 169 9 (.slice A n c)).run Tryz.prog w = .ok (.string ⟨bs.toArray⟩) w:=by
 obtain ⟨g,cap,hv,_,hlt⟩:=h.form hn;have hA:A=some ⟨g,0,none⟩:=by injection hv
 subst hA;have hl:bs.length=n:=by have:=h.1;simpa [byteCells] using this
 have hc:=h.cells (g:=g) rfl;have:=run_convert_bytes_arg (P:=Tryz.prog) w 169 5 Tryz.underlying169 Tryz.underlying5 g 0 n c (bs.map fun b=>(b.toNat:Int)) (by simpa using hl) (fun i hi=>by
  have h1:(byteCells bs)[i]? = some (.int .u8 ((bs.map fun b=>(b.toNat:Int)).getD i 0)):=by
   unfold byteCells;rw [List.getElem?_map,List.getD_eq_getElem?_getD,List.getElem?_map,List.getElem?_eq_getElem (by omega)];rfl
  have h2:=hc i _ h1;have h3:(⟨g,0,none⟩:Addr).add i=⟨g,0+i,none⟩:=by unfold Addr.add;split <;> simp_all
  rwa [h3] at h2) 9 Tryz.underlying9
 have hs:strOfNums (bs.map fun b=>(b.toNat:Int))=⟨bs.toArray⟩:=by unfold strOfNums;simp [Function.comp_def]
 rw [this,hs]
def tx (neg:Bool) (l:List Nat):List UInt8:=if l=[] then [48] else if neg then 45 :: txt10 l else txt10 l
def pre (neg:Bool):List UInt8:=if neg then [45] else []
theorem tx_pre (neg:Bool) {l:List Nat} (h:l≠[]):tx neg l=pre neg ++ txt10 l:=by unfold tx pre;rw [if_neg h];cases neg <;> simp
theorem txt10_take (l:List Nat) (m:Nat) (hm:m<l.length):(txt10 l).take (l.length - m)=(txt10 l).take (l.length - (m+1)) ++ [UInt8.ofNat (48+l.getD m 0)]:=by
 have hlen:(txt10 l).length=l.length:=by simp [txt10]
 rw [show l.length - m=(l.length - (m+1))+1 by omega,List.take_succ_eq_append_getElem (by omega)];congr 2;unfold txt10;rw [List.getElem_map,List.getElem_reverse,List.getD_eq_getElem?_getD,List.getElem?_eq_getElem hm];simp only [Option.getD_some];congr 3;omega
theorem tx_itoa (neg:Bool) {l:List Nat} (h:Norm10 l):tx neg l=itoa (if neg then -(val10 l:Int) else val10 l):=by
 by_cases hn:l=[]
 ·subst hn;unfold tx;rw [if_pos rfl]
  cases neg <;> simp [val10] <;> (rw [show (0:Int)=((0:Nat):Int) from rfl,itoa_nn,decDigits_zero])
 ·unfold tx;rw [if_neg hn,txt10_norm h hn]
  cases neg
  ·simp [itoa_nn]
  ·simp [itoa_ng _ (h.val_pos hn)]
def TextOk (neg:Bool) (n:Nat) (l:List Nat) (w:World) (e:Ending) (w':World):Prop:=e = .returned (.tuple #[.string ⟨(tx neg l).toArray⟩,.bool (decide ((n:Int)≤200))])∧Below w.heap.size w w'
theorem rtext_any (neg:Bool) (A:Option Addr) (n c:Nat) (l:List Nat) (w:World) (h:NumV w A n l) (hn:n≤1000000) (hs:Small10 l) :
  Calls Tryz.prog 145 #[.bool neg,.slice A n c] w (TextOk neg n l w):=by
 have hl:=Lib.hid h.len;obtain ⟨i0,hi,hz0,hz1,hz2⟩:=info_parts byteInfo;rcases Nat.eq_zero_or_pos n with h0 | h0
 ·subst h0;have hl0:l=[]:=List.length_eq_zero_iff.1 (by have:=hl.out;omega);subst hl0;go_enter Tryz.func145, Tryz.ntmps145;go_wp2;go_ret2;exact ⟨rfl,Below.refl _ _⟩
 ·have hne:((n:Int) == 0)=false:=by simp;omega
  have hl1:l≠[]:=by intro e;rw [e] at hl;have:=hl.out;simp at this;omega
  have H:=Lib.hid h;have HL1:=Lib.hid hl1;clear h hl1
  cases neg
  ·go_enter Tryz.func145, Tryz.ntmps145;go_wp2;go_loopw [6,7] (fun v i wr=>∃ (x:Int) (m k:Nat) (B:Option Addr) (c':Nat),Hid (x+1=m)∧m≤n∧k+m≤n+1 ∧ -1≤x∧x<n∧i = .int .i64 x∧v = .slice B k c'∧wr.ownsRow w.heap.size 5 1 (.slice B k c') k (byteCells (pre false ++ (txt10 l).take (n - m)))∧Below w.heap.size w wr)
    (fun _ i _=>(RowKit.intOf i+1).toNat)
   case atStart=>exact ⟨(n:Int) - 1,n,0,none,0,by show _=_;omega,Nat.le_refl _,by omega,by omega,by omega,rfl,rfl,by rw [Nat.sub_self];exact World.ownsRow_nil _ _ _ _,Below.refl _ _⟩
   case round =>
    obtain ⟨x,m,k,B,c',hxm,hmn,hkm,hx1,hxn,rfl,rfl,hown,hB⟩:=hrel;by_cases hx:0≤x
    ·obtain ⟨q,rfl⟩:∃ q:Nat,x=(q:Int):=⟨x.toNat,by omega⟩
     obtain rfl:m=q+1:=by have:=hxm.out;omega
     have hqn:q<n:=by omega
     obtain ⟨ad,hA,hblt,hcw⟩:=H.out.cell q hqn;subst hA;have hcell:wr.cell? (ad.add q)=some (.int .i64 ((l.getD q 0:Nat):Int)):=(hB.cell (by rw [block_of_add];exact hblt)).trans hcw;have hd:l.getD q 0<10:=hs.get q;have hstep:=Lib.hid (txt10_take l q (by have:=hl.out;omega));generalize l.getD q 0=d at *;have hd1:(d:Int)<10:=by omega
     have hd0:(0:Int)≤d:=by omega
     clear hcw hblt hx;go_wp2_with (at_builtin;refine wpList_append_own _ rfl (.tmp 22) (.tmp 29) 169 rfl w.heap.size 5 i0 (.int .u8 0) 1 1 Tryz.underlying169 hi hz0 hz1 hz2 rfl (by decide) (.slice B k c') k _ rfl (hown.alloc _) ⟨wr.heap.size,0,none⟩ 1 1 [.int .u8 (48+d)] rfl rfl (cell_one_new _ _ _) (by simp [Value.oneCell']) (by unfold maxLen;omega) (by omega) (by have:=hB.size;simp;omega) ?_;intro v' w3 hown3 hgrow3 _;obtain ⟨A3,c3,rfl⟩:=own_slice hown3);have hcast:((48+d:Nat):Int)=48+(d:Int):=by omega
     have hB3:=(hB.alloc hB.size _).grown hgrow3 (by have:=hB.size;simp;omega) (own_ge hown);have hown4:w3.ownsRow w.heap.size 5 1 (.slice A3 (k+1) c3) (k+1) (byteCells (pre false ++ (txt10 l).take (n - q))):=by
      have hq:=hstep.out;rw [← hl.out] at hq;rw [hq,← List.append_assoc,← byteCells_snoc _ _ (by omega),hcast];exact hown3
     go_roundw
     case rel=>exact ⟨(q:Int) - 1,q,k+1,A3,c3,by show _=_;omega,by omega,by omega,by omega,by omega,rfl,rfl,hown4,hB3⟩
     case measure=>simp [RowKit.intOf]
    ·have hx':x<0:=by omega
     obtain rfl:m=0:=by have:=hxm.out;omega
     have ht:(txt10 l).take (n - 0)=txt10 l:=List.take_of_length_le (by have:=hl.out;simp [txt10];omega);rw [ht,← tx_pre false HL1.out] at hown;have hk0:0<k:=by
      have h1:=hown.1;have h2:0<(tx false l).length:=by rw [tx_pre _ HL1.out];have:=hl.out;simp [txt10];omega
      simp [byteCells] at h1;omega
     have hcv:=conv_own hown hk0;clear ht hk0 hx;go_wp2;go_ret2;exact ⟨rfl,hB⟩
  ·go_enter Tryz.func145, Tryz.ntmps145;go_wp2_with (at_builtin;refine wpList_append_own _ rfl (.tmp 12) (.tmp 13) 169 rfl w.heap.size 5 i0 (.int .u8 0) 1 1 Tryz.underlying169 hi hz0 hz1 hz2 rfl (by decide) (.slice none 0 0) 0 [] rfl ((World.ownsRow_nil w _ _ _).alloc _) ⟨w.heap.size,0,none⟩ 1 1 [.int .u8 45] rfl rfl (cell_one_new _ _ _) (by simp [Value.oneCell']) (by unfold maxLen;omega) (by omega) (by simp) ?_;intro v' w2 hown2 hgrow2 _;obtain ⟨A2,c2,rfl⟩:=own_slice hown2);go_loopw [6,7] (fun v i wr=>∃ (x:Int) (m k:Nat) (B:Option Addr) (c':Nat),Hid (x+1=m)∧m≤n∧k+m≤n+1 ∧ -1≤x∧x<n∧i = .int .i64 x∧v = .slice B k c'∧wr.ownsRow w.heap.size 5 1 (.slice B k c') k (byteCells (pre true ++ (txt10 l).take (n - m)))∧Below w.heap.size w wr)
    (fun _ i _=>(RowKit.intOf i+1).toNat)
   case atStart=>exact ⟨(n:Int) - 1,n,1,A2,c2,by show _=_;omega,Nat.le_refl _,by omega,by omega,by omega,rfl,rfl,by rw [Nat.sub_self];exact hown2,((Below.refl _ _).alloc (Nat.le_refl _) _).grown hgrow2 (by simp) (by simp [Value.ownBlock])⟩
   case round =>
    obtain ⟨x,m,k,B,c',hxm,hmn,hkm,hx1,hxn,rfl,rfl,hown,hB⟩:=hrel;by_cases hx:0≤x
    ·obtain ⟨q,rfl⟩:∃ q:Nat,x=(q:Int):=⟨x.toNat,by omega⟩
     obtain rfl:m=q+1:=by have:=hxm.out;omega
     have hqn:q<n:=by omega
     obtain ⟨ad,hA,hblt,hcw⟩:=H.out.cell q hqn;subst hA;have hcell:wr.cell? (ad.add q)=some (.int .i64 ((l.getD q 0:Nat):Int)):=(hB.cell (by rw [block_of_add];exact hblt)).trans hcw;have hd:l.getD q 0<10:=hs.get q;have hstep:=Lib.hid (txt10_take l q (by have:=hl.out;omega));generalize l.getD q 0=d at *;have hd1:(d:Int)<10:=by omega
     have hd0:(0:Int)≤d:=by omega
     clear hcw hblt hx;go_wp2_with (at_builtin;refine wpList_append_own _ rfl (.tmp 22) (.tmp 29) 169 rfl w.heap.size 5 i0 (.int .u8 0) 1 1 Tryz.underlying169 hi hz0 hz1 hz2 rfl (by decide) (.slice B k c') k _ rfl (hown.alloc _) ⟨wr.heap.size,0,none⟩ 1 1 [.int .u8 (48+d)] rfl rfl (cell_one_new _ _ _) (by simp [Value.oneCell']) (by unfold maxLen;omega) (by omega) (by have:=hB.size;simp;omega) ?_;intro v' w3 hown3 hgrow3 _;obtain ⟨A3,c3,rfl⟩:=own_slice hown3);have hcast:((48+d:Nat):Int)=48+(d:Int):=by omega
     have hB3:=(hB.alloc hB.size _).grown hgrow3 (by have:=hB.size;simp;omega) (own_ge hown);have hown4:w3.ownsRow w.heap.size 5 1 (.slice A3 (k+1) c3) (k+1) (byteCells (pre true ++ (txt10 l).take (n - q))):=by
      have hq:=hstep.out;rw [← hl.out] at hq;rw [hq,← List.append_assoc,← byteCells_snoc _ _ (by omega),hcast];exact hown3
     go_roundw
     case rel=>exact ⟨(q:Int) - 1,q,k+1,A3,c3,by show _=_;omega,by omega,by omega,by omega,by omega,rfl,rfl,hown4,hB3⟩
     case measure=>simp [RowKit.intOf]
    ·have hx':x<0:=by omega
     obtain rfl:m=0:=by have:=hxm.out;omega
     have ht:(txt10 l).take (n - 0)=txt10 l:=List.take_of_length_le (by have:=hl.out;simp [txt10];omega);rw [ht,← tx_pre true HL1.out] at hown;have hk0:0<k:=by
      have h1:=hown.1;have h2:0<(tx true l).length:=by rw [tx_pre _ HL1.out];have:=hl.out;simp [txt10];omega
      simp [byteCells] at h1;omega
     have hcv:=conv_own hown hk0;clear ht hk0 hx;go_wp2;go_ret2;exact ⟨rfl,hB⟩
end Go.Proofs.YtdikaoahgleffaaGreatDoor
namespace Go.Proofs.YtdikaoahgleffaaGreatDoor
open Go Go.RowKit Go.Lib
theorem idx_list (s:ByteArray) (i:Nat) (h:i<s.size):s.data.toList[i]? = some s[i]:=by
 rw [Array.getElem?_toList];exact Array.getElem?_eq_getElem h
theorem size_len (s:ByteArray):s.data.toList.length=s.size:=by rw [Array.length_toList];rfl
def lastB (u:List UInt8):Bool:=decide (0<u.length) && decide (u.length≤200) && (u == [48] || u.head? != some 48)
theorem validB_body (s:List UInt8):validB s=((body s).all isDig && lastB (body s) && !(s.head? == some 45 && body s == [48])):=by
 have e0:decide (0<(body s).length) = !(body s).isEmpty:=by cases body s <;> simp
 unfold validB lastB;rw [e0];by_cases hm:s.head? = some 45
 ·have e1:(s == [48])=false:=by
   rw [beq_eq_false_iff_ne];rintro rfl;simp at hm
  have e2:(s.head? == some 45)=true:=by simpa using hm
  rw [e1,e2];by_cases hb:body s=[48]
  ·rw [hb];simp
  ·have e3:(body s == [48])=false:=by simpa using hb
   rw [e3]
   cases (body s).isEmpty <;> cases decide ((body s).length≤200) <;> cases (body s).all isDig <;> cases ((body s).head? != some 48) <;> rfl
 ·have e:body s=s:=by unfold body;rw [if_neg hm]
  have e2:(s.head? == some 45)=false:=by simpa using hm
  rw [e,e2]
  cases s.isEmpty <;> cases decide (s.length≤200) <;> cases s.all isDig <;> cases (s == [48]) <;> cases (s.head? != some 48) <;> rfl
theorem ret_b {a b:Bool} (h:a=b):Ending.returned (.bool a) = .returned (.bool b):=by rw [h]
def RBool (c:Bool) (w:World) (e:Ending) (w':World):Prop:=e = .returned (.bool c)∧w'=w
theorem ext_tail (s:ByteArray):(s.extract 1 s.size).data.toList=s.data.toList.tail:=by
 rw [Lib.extract_to_end];simp
theorem list_beq (u:ByteArray) (l:List UInt8):(u.toList == l)=(u.data.toList == l):=by rw [ByteArray.toList_eq]
theorem rvalid_any (s:ByteArray) (w:World) (hs:s.size≤9223372036854775807) :
  Calls Tryz.prog 140 #[.string s] w (RBool (validB s.data.toList) w):=by
 have hvb:=validB_body s.data.toList;by_cases hA:0<s.size∧s.data.toList.head? = some 45
 ·obtain ⟨h0,h45⟩:=hA;have hc:s[0]=45:=by
   have:=idx_list s 0 h0;rw [← List.head?_eq_getElem?,h45] at this;injection this with this;exact this.symm
  have hc1:(s[0].toNat:Int)=45:=by rw [hc];rfl
  have hbl:body s.data.toList=(s.extract 1 s.size).data.toList:=by rw [ext_tail];unfold body;rw [if_pos h45]
  rw [hbl,h45] at hvb;have hus:(s.extract 1 s.size).size≤9223372036854775807:=by rw [ByteArray.size_extract];omega
  clear hbl hc h45;by_cases h48:((s.extract 1 s.size).data.toList == [48])=true
  ·have h48':((s.extract 1 s.size).toList == [48])=true:=by rw [list_beq];exact h48
   rw [h48] at hvb;have HV:=Lib.hid hvb;clear h48 hvb;go_enter Tryz.func140, Tryz.ntmps140;go_wp2;go_ret;exact ⟨ret_b (by rw [HV.out];simp),rfl⟩
  ·have h48':((s.extract 1 s.size).toList == [48])=false:=by rw [list_beq];simpa using h48
   have hn48:Hid (((s.extract 1 s.size).data.toList == [48])=false):=Lib.hid (by simpa using h48);have HV:=Lib.hid hvb;clear h48 hvb;go_enter Tryz.func140, Tryz.ntmps140;go_wp2;generalize s.extract 1 s.size=u at *;clear hc1 h0 h48';go_loop [3] (fun i=>∃ k:Nat,k≤u.size∧i = .int .i64 (k:Int)∧Hid ((u.data.toList.take k).all isDig=true)) (fun i=>u.size - (RowKit.intOf i).toNat)
   case atStart=>exact ⟨0,Nat.zero_le _,rfl,by show _=_;simp⟩
   case round =>
    obtain ⟨k,hk,rfl,hall⟩:=hrel;by_cases hlt:k<u.size
    ·have hcl:=Lib.hid (idx_list u k hlt);have hc256:(u[k].toNat:Int)<256:=by have:=u[k].toNat_lt;omega
     have hbad:Hid (isDig u[k]=false→u.data.toList.all isDig=false):=Lib.hid (fun hf=>by
      rw [List.all_eq_false];exact ⟨u[k],List.mem_of_getElem? hcl.out,by simp [hf]⟩)
     have hgood:Hid (isDig u[k]=true→(u.data.toList.take (k+1)).all isDig=true):=Lib.hid (fun hf=>by
      rw [List.take_add_one,hcl.out,List.all_append,hall.out];simp [hf])
     have hdig:Hid (isDig u[k]=(decide (48≤u[k].toNat) && decide (u[k].toNat≤57))):=Lib.hid rfl;by_cases h1:(u[k].toNat:Int)<48
     ·have hf:=hbad.out (by rw [hdig.out];simp;omega);have HF:=Lib.hid hf;clear hf;go_wp2;go_ret;exact ⟨ret_b (by rw [HV.out,HF.out];rfl),rfl⟩
     ·by_cases h2:57<(u[k].toNat:Int)
      ·have hf:=hbad.out (by rw [hdig.out];simp;omega);have HF:=Lib.hid hf;clear hf;go_wp2;go_ret;exact ⟨ret_b (by rw [HV.out,HF.out];rfl),rfl⟩
      ·have hg:=hgood.out (by rw [hdig.out];simp;omega);have HG:=Lib.hid hg;clear hg;go_wp2;go_round
       case rel=>exact ⟨k+1,by omega,by go_num,HG⟩
       case measure=>simp [RowKit.intOf];omega
    ·obtain rfl:k=u.size:=by omega
     have hall':u.data.toList.all isDig=true:=by have:=hall.out;rwa [List.take_of_length_le (by rw [size_len];exact Nat.le_refl _)] at this
     have HALL:=Lib.hid hall';clear hall' hall hlt;have hlen:=Lib.hid (size_len u);rcases Nat.eq_zero_or_pos u.size with hz | hz
     ·have hl:lastB u.data.toList=false:=by unfold lastB;have:=hlen.out;simp;omega
      have HL:=Lib.hid hl;clear hl;go_wp2;go_ret;exact ⟨ret_b (by rw [HV.out,HALL.out,HL.out];rfl),rfl⟩
     ·by_cases h200:u.size≤200
      ·have hh:u.data.toList.head? = some u[0]:=by rw [List.head?_eq_getElem?];exact idx_list u 0 hz
       by_cases h48:(u.data.toList == [48])=true
       ·have h48':(u.toList == [48])=true:=by rw [list_beq];exact h48
        have hl:lastB u.data.toList=true:=by unfold lastB;have:=hlen.out;rw [h48];simp;omega
        have HL:=Lib.hid hl;clear hl hh h48;go_wp2;go_ret;exact ⟨ret_b (by rw [HV.out,HALL.out,HL.out,hn48.out];rfl),rfl⟩
       ·have h48':(u.toList == [48])=false:=by rw [list_beq];simpa using h48
        by_cases hc:u[0]=48
        ·have hl:lastB u.data.toList=false:=by unfold lastB;rw [hh,hc];simp;intro _ _;simpa using h48
         have hc1:(u[0].toNat:Int)=48:=by rw [hc];rfl
         have HL:=Lib.hid hl;clear hl hh h48 hc;go_wp2;go_ret;exact ⟨ret_b (by rw [HV.out,HALL.out,HL.out];rfl),rfl⟩
        ·have hl:lastB u.data.toList=true:=by unfold lastB;have:=hlen.out;rw [hh];simp;exact ⟨⟨by omega,by omega⟩,.inr hc⟩
         have hc1:((u[0].toNat:Int) == 48)=false:=by
          simp;intro e;exact hc (UInt8.toNat_inj.1 (by show u[0].toNat=48;omega))
         have HL:=Lib.hid hl;clear hl hh h48 hc;go_wp2;go_ret;exact ⟨ret_b (by rw [HV.out,HALL.out,HL.out,hn48.out];simp only [bne,hc1];rfl),rfl⟩
      ·have hl:lastB u.data.toList=false:=by unfold lastB;have:=hlen.out;simp;intro _ h;omega
       have HL:=Lib.hid hl;clear hl;go_wp2;go_ret;exact ⟨ret_b (by rw [HV.out,HALL.out,HL.out];rfl),rfl⟩
 ·have hno:Hid ((s.data.toList.head? == some 45)=false):=Lib.hid (by
   rw [beq_eq_false_iff_ne];intro e;refine hA ⟨?_,e⟩;rw [← size_len]
   cases hl:s.data.toList with
   | nil=>rw [hl] at e;cases e
   | cons c r=>simp)
  have hb:body s.data.toList=s.data.toList:=by
   unfold body;rw [if_neg];have:=hno.out;simpa using this
  rw [hb,hno.out] at hvb;have HV:=Lib.hid hvb;clear hb hvb;have hfirst:0<s.size→∃ c:Int,∃ h:0<s.size,(s[0].toNat:Int)=c∧(c == 45)=false:=by
   intro h;refine ⟨_,h,rfl,?_⟩;rw [beq_eq_false_iff_ne];intro e;have h1:=idx_list s 0 h;rw [← List.head?_eq_getElem?] at h1;have h2:=hno.out;rw [h1,beq_eq_false_iff_ne] at h2;exact h2 (by congr 1;exact UInt8.toNat_inj.1 (by show s[0].toNat=45;omega))
  clear hA;obtain ⟨u,hu⟩:∃ u,u=s:=⟨_,rfl⟩
  subst hu;rcases Nat.eq_zero_or_pos u.size with hz | hz
  ·clear hfirst;go_enter Tryz.func140, Tryz.ntmps140;go_wp2;go_loop [3] (fun i=>i = .int .i64 0) (fun _=>0)
   case atStart=>rfl
   case round =>
    subst hrel;have hl:lastB u.data.toList=false:=by unfold lastB;have:=size_len u;simp;omega
    have HL:=Lib.hid hl;clear hl;go_wp2;go_ret;exact ⟨ret_b (by rw [HV.out,HL.out];simp),rfl⟩
  ·obtain ⟨c0,_,hc0,hc0'⟩:=hfirst hz;clear hfirst;go_enter Tryz.func140, Tryz.ntmps140;go_wp2;clear hc0 hc0' hz;go_loop [3] (fun i=>∃ k:Nat,k≤u.size∧i = .int .i64 (k:Int)∧Hid ((u.data.toList.take k).all isDig=true)) (fun i=>u.size - (RowKit.intOf i).toNat)
   case atStart=>exact ⟨0,Nat.zero_le _,rfl,by show _=_;simp⟩
   case round =>
    obtain ⟨k,hk,rfl,hall⟩:=hrel;by_cases hlt:k<u.size
    ·have hcl:=Lib.hid (idx_list u k hlt);have hc256:(u[k].toNat:Int)<256:=by have:=u[k].toNat_lt;omega
     have hbad:Hid (isDig u[k]=false→u.data.toList.all isDig=false):=Lib.hid (fun hf=>by
      rw [List.all_eq_false];exact ⟨u[k],List.mem_of_getElem? hcl.out,by simp [hf]⟩)
     have hgood:Hid (isDig u[k]=true→(u.data.toList.take (k+1)).all isDig=true):=Lib.hid (fun hf=>by
      rw [List.take_add_one,hcl.out,List.all_append,hall.out];simp [hf])
     have hdig:Hid (isDig u[k]=(decide (48≤u[k].toNat) && decide (u[k].toNat≤57))):=Lib.hid rfl;by_cases h1:(u[k].toNat:Int)<48
     ·have hf:=hbad.out (by rw [hdig.out];simp;omega);have HF:=Lib.hid hf;clear hf;go_wp2;go_ret;exact ⟨ret_b (by rw [HV.out,HF.out];rfl),rfl⟩
     ·by_cases h2:57<(u[k].toNat:Int)
      ·have hf:=hbad.out (by rw [hdig.out];simp;omega);have HF:=Lib.hid hf;clear hf;go_wp2;go_ret;exact ⟨ret_b (by rw [HV.out,HF.out];rfl),rfl⟩
      ·have hg:=hgood.out (by rw [hdig.out];simp;omega);have HG:=Lib.hid hg;clear hg;go_wp2;go_round
       case rel=>exact ⟨k+1,by omega,by go_num,HG⟩
       case measure=>simp [RowKit.intOf];omega
    ·obtain rfl:k=u.size:=by omega
     have hall':u.data.toList.all isDig=true:=by have:=hall.out;rwa [List.take_of_length_le (by rw [size_len];exact Nat.le_refl _)] at this
     have HALL:=Lib.hid hall';clear hall' hall hlt;have hlen:=Lib.hid (size_len u);rcases Nat.eq_zero_or_pos u.size with hz | hz
     ·have hl:lastB u.data.toList=false:=by unfold lastB;have:=hlen.out;simp;omega
      have HL:=Lib.hid hl;clear hl;go_wp2;go_ret;exact ⟨ret_b (by rw [HV.out,HALL.out,HL.out];rfl),rfl⟩
     ·by_cases h200:u.size≤200
      ·have hh:u.data.toList.head? = some u[0]:=by rw [List.head?_eq_getElem?];exact idx_list u 0 hz
       by_cases h48:(u.data.toList == [48])=true
       ·have h48':(u.toList == [48])=true:=by rw [list_beq];exact h48
        have hl:lastB u.data.toList=true:=by unfold lastB;have:=hlen.out;rw [h48];simp;omega
        have HL:=Lib.hid hl;clear hl hh h48;go_wp2;go_ret;exact ⟨ret_b (by rw [HV.out,HALL.out,HL.out];rfl),rfl⟩
       ·have h48':(u.toList == [48])=false:=by rw [list_beq];simpa using h48
        by_cases hc:u[0]=48
        ·have hl:lastB u.data.toList=false:=by unfold lastB;rw [hh,hc];simp;intro _ _;simpa using h48
         have hc1:(u[0].toNat:Int)=48:=by rw [hc];rfl
         have HL:=Lib.hid hl;clear hl hh h48 hc;go_wp2;go_ret;exact ⟨ret_b (by rw [HV.out,HALL.out,HL.out];rfl),rfl⟩
        ·have hl:lastB u.data.toList=true:=by unfold lastB;have:=hlen.out;rw [hh];simp;exact ⟨⟨by omega,by omega⟩,.inr hc⟩
         have hc1:((u[0].toNat:Int) == 48)=false:=by
          simp;intro e;exact hc (UInt8.toNat_inj.1 (by show u[0].toNat=48;omega))
         have HL:=Lib.hid hl;clear hl hh h48 hc;go_wp2;go_ret;exact ⟨ret_b (by rw [HV.out,HALL.out,HL.out];simp only [bne,hc1];rfl),rfl⟩
      ·have hl:lastB u.data.toList=false:=by unfold lastB;have:=hlen.out;simp;intro _ h;omega
       have HL:=Lib.hid hl;clear hl;go_wp2;go_ret;exact ⟨ret_b (by rw [HV.out,HALL.out,HL.out];rfl),rfl⟩
end Go.Proofs.YtdikaoahgleffaaGreatDoor
namespace Go.Proofs.YtdikaoahgleffaaGreatDoor
open Go Go.RowKit Go.Lib
def IsD (w:World) (A:Option Addr) (n c x:Nat):Prop:=∃ l,NumV w A n l∧Norm10 l∧val10 l=x∧n≤c
theorem IsD.below {w w':World} {A:Option Addr} {n c x:Nat} (h:IsD w A n c x) (hb:Below w.heap.size w w'):IsD w' A n c x :=
 let ⟨l,h1,h2,h3,h4⟩:=h;⟨l,h1.below hb,h2,h3,h4⟩
theorem Norm10.length_le {l:List Nat} (h:Norm10 l) {K:Nat} (hv:val10 l<10 ^ K):l.length≤K:=by
 by_cases hn:l=[]
 ·subst hn;simp
 ·have h1:=txt10_norm h hn;have h2:l.length=(decDigits (val10 l)).length:=by rw [← h1];simp [txt10]
  rcases Nat.eq_zero_or_pos K with e | e
  ·subst e;have:=h.val_pos hn;simp at hv;omega
  ·rw [h2];exact (dec_lt _ K e).2 hv
theorem IsD.le {w:World} {A:Option Addr} {n c x:Nat} (h:IsD w A n c x) {K:Nat} (hx:x<10 ^ K):n≤K:=by
 obtain ⟨l,h1,h2,h3,_⟩:=h;rw [h1.len];exact h2.length_le (by rw [h3];exact hx)
theorem Norm10.val_zero {l:List Nat} (h:Norm10 l):val10 l=0 ↔ l=[]:=by
 constructor
 ·intro e;by_cases hl:l=[]
  ·exact hl
  ·have:=h.val_pos hl;omega
 ·rintro rfl;rfl
theorem IsD.zero {w:World} {A:Option Addr} {n c x:Nat} (h:IsD w A n c x):n=0 ↔ x=0:=by
 obtain ⟨l,h1,h2,h3,_⟩:=h;rw [h1.len,← h3,h2.val_zero];exact List.length_eq_zero_iff
theorem txt10_back {l:List Nat} {u:Nat} (hs:Small10 l) (h:txt10 l=decDigits u) (hu:0<u):Norm10 l∧val10 l=u:=by
 refine ⟨⟨hs,?_⟩,by rw [← evalD_txt10 hs,h,evalD_decDigits]⟩;intro e;have hne:l≠[]:=by rintro rfl;simp at e
 have h1:=decDigits_head u hu;rw [← h] at h1;apply h1;obtain ⟨m,d,rfl⟩:∃ m d,l=m ++ [d]:=⟨l.dropLast,l.getLast hne,(List.dropLast_concat_getLast hne).symm⟩
 rw [txt10_snoc];simp at e;subst e;rfl
def DigOk (z:Int) (w:World) (e:Ending) (w':World):Prop:=∃ A n c,e = .returned (.tuple #[.bool (decide (z<0)),.slice A n c])∧IsD w' A n c z.natAbs∧Below w.heap.size w w'
theorem rdigits_zero (w:World):Calls Tryz.prog 176 #[.string ⟨#[48]⟩] w (DigOk 0 w):=by
 go_enter Tryz.func176, Tryz.ntmps176;go_wp2;go_loopw [5,6] (fun v i wr=>v = .slice none 0 0∧i = .int .i64 0∧wr=w) (fun _ _ _=>0)
 case atStart=>exact ⟨rfl,rfl,rfl⟩
 case round =>
  obtain ⟨rfl,rfl,rfl⟩:=hrel;go_wp2;go_ret2;exact ⟨none,0,0,rfl,⟨[],NumV.nil,norm10_nil,rfl,Nat.le_refl _⟩,Below.refl _ _⟩
theorem rdigits_neg (s:ByteArray) (z:Int) (w:World) (hz:Is s z) (hf:Fits z) (h:z<0) (hsz:s.size≤9223372036854775807):Calls Tryz.prog 176 #[.string s] w (DigOk z w):=by
 obtain ⟨i0,hi,hz0,hz1,hz2⟩:=info_parts intInfo;have h45:s.data.toList.head? = some 45:=by unfold Is at hz;rw [hz];exact (itoa_head z).2 h
 have h0:0<s.size:=by
  rw [← size_len]
  cases hl:s.data.toList with
  | nil=>rw [hl] at h45;cases h45
  | cons c r=>simp
 have hc1:(s[0].toNat:Int)=45:=by
  have:=idx_list s 0 h0;rw [← List.head?_eq_getElem?,h45] at this;injection this with this;rw [← this];rfl
 have HUL:(s.extract 1 s.size).data.toList=decDigits z.natAbs:=by
  rw [ext_tail];have:=body_itoa z;unfold Is at hz;rw [← hz] at this;unfold body at this
  rwa [if_pos h45] at this
 have hdz:decide (z<0)=true:=by simpa using h
 unfold DigOk;rw [hdz];clear h45 hz;obtain ⟨u,hu⟩:∃ u,u=s.extract 1 s.size:=⟨_,rfl⟩
 rw [← hu] at HUL;have hul:Hid (u.data.toList=decDigits z.natAbs):=Lib.hid HUL;have hd:Hid (∀ c ∈ u.data.toList,isDig c=true):=Lib.hid (by rw [hul.out];exact decDigits_dig _);have hfin0:Hid (∀ l,Small10 l→txt10 l=u.data.toList→Norm10 l∧val10 l=z.natAbs):=Lib.hid (fun l h1 h2=>txt10_back h1 (by rw [h2,hul.out]) (by omega));have hu200:u.size≤200:=by
  have h1:=(fits_iff z).2 hf;rw [← hul.out,size_len] at h1;exact h1
 have hu1:0<u.size:=by rw [← size_len,hul.out];exact dec_len_pos _
 have hn48:(u.toList == [48])=false:=by
  rw [list_beq,hul.out,beq_eq_false_iff_ne];intro e;rw [← decDigits_zero] at e;have:=decDigits_inj e;omega
 have HSE:Hid (s.size - 1=u.size):=Lib.hid (by rw [hu,ByteArray.size_extract];omega);clear HUL h hdz hf;go_enter Tryz.func176, Tryz.ntmps176;go_wp2_with fail;rw [← hu];clear hu hc1;go_loopw [5,6] (fun v i wr=>∃ (x:Int) (m k:Nat) (A:Option Addr) (c:Nat) (l:List Nat),Hid (x+1=m)∧m≤u.size∧k+m≤u.size ∧ -1≤x∧x<u.size∧i = .int .i64 x∧v = .slice A k c∧wr.ownsRow w.heap.size 3 1 (.slice A k c) k (ints l)∧Below w.heap.size w wr∧Hid (Small10 l∧txt10 l=u.data.toList.drop m))
  (fun _ i _=>(RowKit.intOf i+1).toNat)
 case atStart=>exact ⟨(u.size:Int) - 1,u.size,0,none,0,[],by show _=_;omega,Nat.le_refl _,by omega,by omega,by omega,by rw [HSE.out],rfl,World.ownsRow_nil _ _ _ _,Below.refl _ _,⟨small10_nil,by rw [List.drop_of_length_le (by rw [size_len];exact Nat.le_refl _)];rfl⟩⟩
 case round =>
  obtain ⟨x,m,k,A,c,l,hxm,hmn,hkm,hx1,hxn,rfl,rfl,hown,hB,hl⟩:=hrel;by_cases hx:0≤x
  ·obtain ⟨q,rfl⟩:∃ q:Nat,x=(q:Int):=⟨x.toNat,by omega⟩
   obtain rfl:m=q+1:=by have:=hxm.out;omega
   have hqn:q<u.size:=by omega
   have hcl:=Lib.hid (idx_list u q hqn);have hdq:isDig u[q]=true:=hd.out _ (List.mem_of_getElem? hcl.out);have hd1:48≤(u[q].toNat:Int):=by simp [isDig] at hdq;omega
   have hd2:(u[q].toNat:Int)≤57:=by simp [isDig] at hdq;omega
   have hnew:Hid (Small10 (l ++ [((u[q].toNat:Int) - 48).toNat])∧txt10 (l ++ [((u[q].toNat:Int) - 48).toNat])=u.data.toList.drop q):=Lib.hid ⟨hl.out.1.append (Small10.mk (by omega) small10_nil),by
    rw [txt10_snoc,hl.out.2,show 48+((u[q].toNat:Int) - 48).toNat=u[q].toNat by omega];have hlt:q<u.data.toList.length:=by rw [size_len];exact hqn
    rw [List.drop_eq_getElem_cons hlt];congr 1;have:=hcl.out;rw [List.getElem?_eq_getElem hlt] at this;injection this with this;rw [this];simp⟩
   clear hdq hx;go_wp2_with (at_builtin;refine wpList_append_own _ rfl (.tmp 24) (.tmp 30) 124 rfl w.heap.size 3 i0 (.int .i64 0) 1 8 Tryz.underlying124 hi hz0 hz1 hz2 rfl (by decide) (.slice A k c) k (ints l) rfl (hown.alloc _) ⟨wr.heap.size,0,none⟩ 1 1 [.int .i64 ((u[q].toNat:Int) - 48)] rfl rfl (cell_one_new _ _ _) (by simp [Value.oneCell']) (by unfold maxLen;omega) (by omega) (by have:=hB.size;simp;omega) ?_;intro v' w3 hown3 hgrow3 _;obtain ⟨A3,c3,rfl⟩:=own_slice hown3);go_roundw
   case rel=>exact ⟨(q:Int) - 1,q,k+1,A3,c3,l ++ [((u[q].toNat:Int) - 48).toNat],by show _=_;omega,by omega,by omega,by omega,by omega,rfl,rfl,by rw [← ints_snoc _ _ (by omega)];exact hown3,(hB.alloc hB.size _).grown hgrow3 (by have:=hB.size;simp;omega) (own_ge hown),hnew⟩
   case measure=>simp [RowKit.intOf]
  ·have hx':x<0:=by omega
   obtain rfl:m=0:=by have:=hxm.out;omega
   have hfin:=Lib.hid (hfin0.out l hl.out.1 (by have:=hl.out.2;rwa [List.drop_zero] at this));clear hx;go_wp2;go_ret2;exact ⟨A,k,c,rfl,⟨l,Reads.of_own hown,hfin.out.1,hfin.out.2,own_le hown⟩,hB⟩
theorem rdigits_pos (u:ByteArray) (z:Int) (w:World) (hz:Is u z) (hf:Fits z) (h:0<z):Calls Tryz.prog 176 #[.string u] w (DigOk z w):=by
 obtain ⟨i0,hi,hz0,hz1,hz2⟩:=info_parts intInfo;have HUL:u.data.toList=decDigits z.natAbs:=by
  unfold Is at hz;rw [hz];obtain ⟨v,rfl⟩:∃ v:Nat,z=v:=⟨z.natAbs,by omega⟩
  rw [itoa_nn,Int.natAbs_natCast]
 have hdz:decide (z<0)=false:=by simp;omega
 unfold DigOk;rw [hdz];have hul:Hid (u.data.toList=decDigits z.natAbs):=Lib.hid HUL;have hd:Hid (∀ c ∈ u.data.toList,isDig c=true):=Lib.hid (by rw [hul.out];exact decDigits_dig _);have hfin0:Hid (∀ l,Small10 l→txt10 l=u.data.toList→Norm10 l∧val10 l=z.natAbs):=Lib.hid (fun l h1 h2=>txt10_back h1 (by rw [h2,hul.out]) (by omega));have hu200:u.size≤200:=by
  have h1:=(fits_iff z).2 hf;rw [← hul.out,size_len] at h1;exact h1
 have hu1:0<u.size:=by rw [← size_len,hul.out];exact dec_len_pos _
 have hn48:(u.toList == [48])=false:=by
  rw [list_beq,hul.out,beq_eq_false_iff_ne];intro e;rw [← decDigits_zero] at e;have:=decDigits_inj e;omega
 have hc1:48≤(u[0].toNat:Int):=by
  have h1:=hd.out u[0] (List.mem_of_getElem? (idx_list u 0 hu1));simp [isDig] at h1;omega
 have hc2:(u[0].toNat:Int)≤57:=by
  have h1:=hd.out u[0] (List.mem_of_getElem? (idx_list u 0 hu1));simp [isDig] at h1;omega
 have hc3:((u[0].toNat:Int) == 45)=false:=by rw [beq_eq_false_iff_ne];omega
 clear HUL h hdz hf hz;go_enter Tryz.func176, Tryz.ntmps176;go_wp2;clear hc1 hc2 hc3;go_loopw [5,6] (fun v i wr=>∃ (x:Int) (m k:Nat) (A:Option Addr) (c:Nat) (l:List Nat),Hid (x+1=m)∧m≤u.size∧k+m≤u.size ∧ -1≤x∧x<u.size∧i = .int .i64 x∧v = .slice A k c∧wr.ownsRow w.heap.size 3 1 (.slice A k c) k (ints l)∧Below w.heap.size w wr∧Hid (Small10 l∧txt10 l=u.data.toList.drop m))
  (fun _ i _=>(RowKit.intOf i+1).toNat)
 case atStart=>exact ⟨(u.size:Int) - 1,u.size,0,none,0,[],by show _=_;omega,Nat.le_refl _,by omega,by omega,by omega,rfl,rfl,World.ownsRow_nil _ _ _ _,Below.refl _ _,⟨small10_nil,by rw [List.drop_of_length_le (by rw [size_len];exact Nat.le_refl _)];rfl⟩⟩
 case round =>
  obtain ⟨x,m,k,A,c,l,hxm,hmn,hkm,hx1,hxn,rfl,rfl,hown,hB,hl⟩:=hrel;by_cases hx:0≤x
  ·obtain ⟨q,rfl⟩:∃ q:Nat,x=(q:Int):=⟨x.toNat,by omega⟩
   obtain rfl:m=q+1:=by have:=hxm.out;omega
   have hqn:q<u.size:=by omega
   have hcl:=Lib.hid (idx_list u q hqn);have hdq:isDig u[q]=true:=hd.out _ (List.mem_of_getElem? hcl.out);have hd1:48≤(u[q].toNat:Int):=by simp [isDig] at hdq;omega
   have hd2:(u[q].toNat:Int)≤57:=by simp [isDig] at hdq;omega
   have hnew:Hid (Small10 (l ++ [((u[q].toNat:Int) - 48).toNat])∧txt10 (l ++ [((u[q].toNat:Int) - 48).toNat])=u.data.toList.drop q):=Lib.hid ⟨hl.out.1.append (Small10.mk (by omega) small10_nil),by
    rw [txt10_snoc,hl.out.2,show 48+((u[q].toNat:Int) - 48).toNat=u[q].toNat by omega];have hlt:q<u.data.toList.length:=by rw [size_len];exact hqn
    rw [List.drop_eq_getElem_cons hlt];congr 1;have:=hcl.out;rw [List.getElem?_eq_getElem hlt] at this;injection this with this;rw [this];simp⟩
   clear hdq hx;go_wp2_with (at_builtin;refine wpList_append_own _ rfl (.tmp 24) (.tmp 30) 124 rfl w.heap.size 3 i0 (.int .i64 0) 1 8 Tryz.underlying124 hi hz0 hz1 hz2 rfl (by decide) (.slice A k c) k (ints l) rfl (hown.alloc _) ⟨wr.heap.size,0,none⟩ 1 1 [.int .i64 ((u[q].toNat:Int) - 48)] rfl rfl (cell_one_new _ _ _) (by simp [Value.oneCell']) (by unfold maxLen;omega) (by omega) (by have:=hB.size;simp;omega) ?_;intro v' w3 hown3 hgrow3 _;obtain ⟨A3,c3,rfl⟩:=own_slice hown3);go_roundw
   case rel=>exact ⟨(q:Int) - 1,q,k+1,A3,c3,l ++ [((u[q].toNat:Int) - 48).toNat],by show _=_;omega,by omega,by omega,by omega,by omega,rfl,rfl,by rw [← ints_snoc _ _ (by omega)];exact hown3,(hB.alloc hB.size _).grown hgrow3 (by have:=hB.size;simp;omega) (own_ge hown),hnew⟩
   case measure=>simp [RowKit.intOf]
  ·have hx':x<0:=by omega
   obtain rfl:m=0:=by have:=hxm.out;omega
   have hfin:=Lib.hid (hfin0.out l hl.out.1 (by have:=hl.out.2;rwa [List.drop_zero] at this));clear hx;go_wp2;go_ret2;exact ⟨A,k,c,rfl,⟨l,Reads.of_own hown,hfin.out.1,hfin.out.2,own_le hown⟩,hB⟩
theorem rdigits_any {s:ByteArray} {z:Int} (hz:Is s z) (hf:Fits z) (w:World):Calls Tryz.prog 176 #[.string s] w (DigOk z w):=by
 rcases Int.lt_trichotomy z 0 with h | h | h
 ·exact rdigits_neg s z w hz hf h (by have:=S_size hf;rw [hz.eq];omega)
 ·subst h;have e:s=⟨#[48]⟩:=by
   have h1:S 0=⟨#[48]⟩:=by
    unfold S;rw [show (0:Int)=((0:Nat):Int) from rfl,itoa_nn,decDigits_zero]
   rw [hz.eq,h1]
  rw [e];exact rdigits_zero w
 ·exact rdigits_pos s z w hz hf h
end Go.Proofs.YtdikaoahgleffaaGreatDoor
namespace Go.Proofs.YtdikaoahgleffaaGreatDoor
open Go Go.RowKit Go.Lib
theorem Norm10.val_ge {l:List Nat} (h:Norm10 l) (hn:l≠[]):10 ^ (l.length - 1)≤val10 l:=by
 have h1:=txt10_norm h hn;have h2:l.length=(decDigits (val10 l)).length:=by rw [← h1];simp [txt10]
 rcases Nat.lt_or_ge (val10 l) (10 ^ (l.length - 1)) with h3 | h3
 ·exfalso;have h0:0<l.length:=List.length_pos_iff.2 hn;rcases Nat.eq_zero_or_pos (l.length - 1) with e | e
  ·rw [e] at h3;have:=h.val_pos hn;simp at h3;omega
  ·have:=(dec_lt _ _ e).2 h3;omega
 ·exact h3
theorem Norm10.lt_of_length {l m:List Nat} (h:Norm10 l) (hm:Norm10 m) (hlt:l.length<m.length):val10 l<val10 m:=by
 have h1:=val10_lt h.1;have h2:=hm.val_ge (by rintro rfl;simp at hlt);have h3:10 ^ l.length≤10 ^ (m.length - 1):=Nat.pow_le_pow_right (by decide) (by omega);omega
theorem val10_lt_of_get {l m:List Nat} (h:Small10 l) (hlen:l.length=m.length) (i:Nat) (hi:i<l.length) (hlt:l.getD i 0<m.getD i 0)
  (heq:∀ j,i<j→j<l.length→l.getD j 0=m.getD j 0):val10 l<val10 m:=by
 induction l generalizing m i with
 | nil=>simp at hi
 | cons d l ih =>
  cases m with
  | nil=>simp at hlen
  | cons x m =>
   simp only [List.length_cons,Nat.add_right_cancel_iff] at hlen;simp only [val10]
   cases i with
   | zero =>
    simp only [List.getD_cons_zero] at hlt;have e:l=m:=by
     apply List.ext_getElem hlen;intro j h1 h2;have:=heq (j+1) (by omega) (by simp;omega);simp only [List.getD_cons_succ] at this;rw [List.getD_eq_getElem?_getD,List.getD_eq_getElem?_getD,List.getElem?_eq_getElem h1,List.getElem?_eq_getElem h2] at this;simpa using this
    rw [e];omega
   | succ i =>
    simp only [List.getD_cons_succ] at hlt;have h1:=ih h.cons.2 hlen i (by simpa using hi) hlt (fun j a b=>by
     have:=heq (j+1) (by omega) (by simp;omega);simpa only [List.getD_cons_succ] using this)
    have h2:=h.cons.1;omega
theorem cmp10_length {l k:List Nat} (nl:Norm10 l) (nk:Norm10 k) (h:l.length≠k.length):cmpZ l.length k.length=cmpZ (val10 l) (val10 k):=by
 rcases Nat.lt_or_gt_of_ne h with h | h
 ·have:=nl.lt_of_length nk h;unfold cmpZ;rw [if_pos (by omega),if_pos (by omega)]
 ·have:=nk.lt_of_length nl h;unfold cmpZ;rw [if_neg (by omega),if_pos (by omega),if_neg (by omega),if_pos (by omega)]
theorem cmp10_get {l k:List Nat} (sl:Small10 l) (sk:Small10 k) (h:l.length=k.length) (i:Nat) (hi:i<l.length) (hne:l.getD i 0≠k.getD i 0)
  (heq:∀ j,i<j→j<l.length→l.getD j 0=k.getD j 0):cmpZ (val10 l) (val10 k)=if l.getD i 0<k.getD i 0 then -1 else 1:=by
 by_cases hlt:l.getD i 0<k.getD i 0
 ·have:=val10_lt_of_get sl h i hi hlt heq;rw [if_pos hlt];unfold cmpZ;rw [if_pos (by omega)]
 ·have:=val10_lt_of_get sk h.symm i (by omega) (by omega) (fun j a b=>(heq j a (by omega)).symm);rw [if_neg hlt];unfold cmpZ;rw [if_neg (by omega),if_pos (by omega)]
def OrdOk (c:Int) (w:World) (e:Ending) (w':World):Prop:=e = .returned (.int .i64 c)∧Below w.heap.size w w'
theorem rorder_len (A B:Option Addr) (n c m d:Nat) (w:World) (h:n≠m) (_hn:n≤1000) (_hm:m≤1000) :
  Calls Tryz.prog 177 #[.slice A n c,.slice B m d] w (OrdOk (cmpZ n m) w):=by
 have h1:((n:Int) == (m:Int))=false:=by rw [beq_eq_false_iff_ne];omega
 rcases Nat.lt_or_gt_of_ne h with h | h
 ·have hc:cmpZ (n:Int) (m:Int) = -1:=by unfold cmpZ;rw [if_pos (by omega)]
  rw [hc];clear hc;go_enter Tryz.func177, Tryz.ntmps177;go_wp2;go_ret;exact ⟨rfl,Below.refl _ _⟩
 ·have hc:cmpZ (n:Int) (m:Int)=1:=by unfold cmpZ;rw [if_neg (by omega),if_pos (by omega)]
  rw [hc];clear hc;go_enter Tryz.func177, Tryz.ntmps177;go_wp2;go_ret;exact ⟨rfl,Below.refl _ _⟩
theorem rorder_same (A B:Option Addr) (n c d:Nat) (l k:List Nat) (w:World) (hl:NumV w A n l) (hk:NumV w B n k) (sl:Small10 l) (sk:Small10 k) (hn:n≤1000) :
  Calls Tryz.prog 177 #[.slice A n c,.slice B n d] w (OrdOk (cmpZ (val10 l) (val10 k)) w):=by
 have HL:=Lib.hid hl;have HK:=Lib.hid hk;have hll:=Lib.hid hl.len;have hkl:=Lib.hid hk.len;have hmx:Tryz.prog.follows .mixedOrders=true:=by kernel_rfl
 obtain ⟨R,hR⟩:∃ R:Int,R=cmpZ (val10 l) (val10 k):=⟨_,rfl⟩
 rw [← hR];have HR:=Lib.hid hR;clear hl hk hR;go_enter Tryz.func177, Tryz.ntmps177;go_wp2;go_loopw [5] (fun i wr=>∃ (x:Int) (m:Nat),Hid (x+1=m)∧m≤n ∧ -1≤x∧x<n∧i = .int .i64 x∧Below w.heap.size w wr∧Hid (∀ j,m≤j→j<n→l.getD j 0=k.getD j 0)) (fun i _=>(RowKit.intOf i+1).toNat)
 case atStart=>exact ⟨(n:Int) - 1,n,by show _=_;omega,Nat.le_refl _,by omega,by omega,rfl,Below.refl _ _,fun j h1 h2=>by omega⟩
 case round =>
  obtain ⟨x,m,hxm,hmn,hx1,hxn,rfl,hB,heq⟩:=hrel;by_cases hx:0≤x
  ·obtain ⟨q,rfl⟩:∃ q:Nat,x=(q:Int):=⟨x.toNat,by omega⟩
   obtain rfl:m=q+1:=by have:=hxm.out;omega
   have hqn:q<n:=by omega
   obtain ⟨ad,hA,hbl1,hc1⟩:=HL.out.cell q hqn;obtain ⟨ad',hB',hbl2,hc2⟩:=HK.out.cell q hqn;subst hA hB';have g1:wr.cell? (ad.add q)=some (.int .i64 ((l.getD q 0:Nat):Int)):=(hB.cell (by rw [block_of_add];exact hbl1)).trans hc1;have g2:wr.cell? (ad'.add q)=some (.int .i64 ((k.getD q 0:Nat):Int)):=(hB.cell (by rw [block_of_add];exact hbl2)).trans hc2;clear hc1 hc2 hbl1 hbl2 hx;by_cases he:l.getD q 0=k.getD q 0
   ·have heq':Hid (∀ j,q≤j→j<n→l.getD j 0=k.getD j 0):=Lib.hid (fun j h1 h2=>by
     rcases Nat.eq_or_lt_of_le h1 with e | e
     ·rw [← e];exact he
     ·exact heq.out j e h2)
    rw [← he] at g2;generalize l.getD q 0=e1 at g1 g2;clear he;go_wp2;go_quiet (fail);go_wp2;go_roundw
    case rel=>exact ⟨(q:Int) - 1,q,by show _=_;omega,by omega,by omega,by omega,rfl,below_drewN hB _,heq'⟩
    case measure=>simp [RowKit.intOf]
   ·have hcmp:=Lib.hid (cmp10_get sl sk (by rw [← hll.out,← hkl.out]) q (by rw [← hll.out];exact hqn) he (fun j h1 h2=>heq.out j h1 (by rw [hll.out];exact h2)));rw [← HR.out] at hcmp;generalize l.getD q 0=e1 at *;generalize k.getD q 0=e2 at *;have hb:((e1:Int) == (e2:Int))=false:=by rw [beq_eq_false_iff_ne];omega
    by_cases hlt:e1<e2
    ·have hcc:R = -1:=by rw [hcmp.out,if_pos hlt]
     subst hcc;clear he;go_wp2;go_quiet (fail);go_wp2;go_quiet (fail);go_wp2;go_ret;exact ⟨rfl,below_drewN (below_drewN hB _) _⟩
    ·have hcc:R=1:=by rw [hcmp.out,if_neg hlt]
     subst hcc;clear he;go_wp2;go_quiet (fail);go_wp2;go_quiet (fail);go_wp2;go_ret;exact ⟨rfl,below_drewN (below_drewN hB _) _⟩
  ·have hx':x<0:=by omega
   obtain rfl:m=0:=by have:=hxm.out;omega
   have hlk:l=k:=eq_of_get (by rw [← hll.out,← hkl.out]) (fun j hj=>heq.out j (by omega) (by rw [hll.out];exact hj));have hcc:R=0:=by rw [HR.out,hlk];unfold cmpZ;simp
   subst hcc;clear hx hlk;go_wp2;go_ret;exact ⟨rfl,hB⟩
theorem rorder_any (A B:Option Addr) (n c m d x y:Nat) (w:World) (hx:IsD w A n c x) (hy:IsD w B m d y) (hn:n≤1000) (hm:m≤1000) :
  Calls Tryz.prog 177 #[.slice A n c,.slice B m d] w (OrdOk (cmpZ x y) w):=by
 obtain ⟨l,hl,nl,vl,_⟩:=hx;obtain ⟨k,hk,nk,vk,_⟩:=hy;rw [← vl,← vk];by_cases h:n=m
 ·subst h;exact rorder_same A B n c d l k w hl hk nl.1 nk.1 hn
 ·have e:=cmp10_length nl nk (by rw [← hl.len,← hk.len];exact h);rw [← hl.len,← hk.len] at e;rw [← e];exact rorder_len A B n c m d w h hn hm
end Go.Proofs.YtdikaoahgleffaaGreatDoor
