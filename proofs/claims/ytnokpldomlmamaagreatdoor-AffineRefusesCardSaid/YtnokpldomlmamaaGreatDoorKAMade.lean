/-
 slices.Grow at no terms, slices.Concat over two slices of terms. slices.BinarySearchFunc over terms by their sources; find of package affine. Affine, plain: forms, values and sources that integers determine; what the laws say of combinations, ranges and covariances. No program in sight.
-/
import Derived.Lib.AppendZeros
import Derived.Test.YtnokpldomlmamaaGreatDoorKALin
import Derived.Test.YtnokpldomlmamaaGreatDoorKALinear
import Derived.Test.YtnokpldomlmamaaGreatDoorKQCmp
set_option linter.unusedSimpArgs false
set_option linter.unusedVariables false
set_option maxRecDepth 100000
set_option maxHeartbeats 16000000
namespace Go.Proofs.YtnokpldomlmamaaGreatDoor
open Go Go.RowKit Go.Lib Go.Shelf
def GrowRes (w:World) (e:Ending) (w':World):Prop:=∃ p c,w'.ownsRow w.heap.size 62 3 (.slice p 0 c) 0 []∧e = .returned (.slice p 0 c)∧Below w.heap.size w w'
theorem agrow_zero (w:World):Calls Tryz.prog 168 #[.slice none 0 0,.int .i64 0] w (GrowRes w):=by
 unfold GrowRes
 go_enter Tryz.func168, Tryz.ntmps168
 go_wp2
 go_ret
 exact ⟨none,0,⟨rfl,.inl ⟨rfl,rfl⟩⟩,rfl,Below.refl _ _⟩
theorem agrow_pos {n:Nat} (h0:0<n) (hn:n≤1000) (w:World):Calls Tryz.prog 168 #[.slice none 0 0,.int .i64 (n:Int)] w (GrowRes w):=by
 obtain ⟨i0,hi,hz0,hz1,hz2⟩:=info_parts termInfo
 have hnI:(0:Int)<(n:Int):=by omega
 have hnI2:(n:Int)≤1000:=by omega
 have hrun:=fun ty=>Lib.run_append_nil_zeros (P:=Tryz.prog) w 56 3 ty 62 i0 (.agg #[.int .i64 0,.string ⟨#[]⟩,.string ⟨#[]⟩]) .i64 .i64 Tryz.underlying56 Tryz.underlying3 hi hz0 n h0 (by rw [hz1];decide) (by omega) (by rw [hz2];omega)
 have hge:=grownCap_ge w n 0 62
 have hle:=grownCap_le_maxLen w n 0 62 (by unfold maxLen;omega)
 have hown:=World.ownsRow_made (e := 62) (base:=w.heap.size) (size:=3) w.drew (Builtin.zeroCells (Value.agg #[.int .i64 0,.string ⟨#[]⟩,.string ⟨#[]⟩]).cells n ++ Builtin.zeroCells (Value.agg #[.int .i64 0,.string ⟨#[]⟩,.string ⟨#[]⟩]).cells (grownCap w n 0 62 - n)) (grownCap w n 0 62) (Nat.le_refl _) hle
  (by rw [Array.size_append,size_zeroCells,size_zeroCells];show n * 3+(grownCap w n 0 62 - n) * 3=_;omega)
 generalize Builtin.zeroCells (Value.agg #[.int .i64 0,.string ⟨#[]⟩,.string ⟨#[]⟩]).cells n ++ Builtin.zeroCells (Value.agg #[.int .i64 0,.string ⟨#[]⟩,.string ⟨#[]⟩]).cells (grownCap w n 0 62 - n)=cur at *
 generalize grownCap w n 0 62 = G at *
 have hB:Below w.heap.size w (w.drew.alloc (.cells cur 62)):=((Below.refl _ w).drew).alloc (Nat.le_refl _) _
 unfold maxLen at hle
 have hG:(n:Int)≤(G:Int):=by omega
 have hG2:(G:Int)≤9223372036854775807:=by omega
 have HO:=Lib.hid hown
 have HBB:=Lib.hid hB
 clear hown hB hi hz0 hz1 hz2 h0 hn
 unfold GrowRes
 go_enter Tryz.func168, Tryz.ntmps168
 go_wp2_with (at_builtin;refine Lib.wpList_append_run _ rfl _ _ _ _ rfl _ _ rfl rfl _ _ (hrun _) ?_)
 go_ret
 exact ⟨_,_,HO.out,rfl,HBB.out⟩
theorem agrow {n:Nat} (hn:n≤1000) (w:World):Calls Tryz.prog 168 #[.slice none 0 0,.int .i64 (n:Int)] w (GrowRes w):=by
 rcases Nat.eq_zero_or_pos n with rfl | h0
 ·exact agrow_zero w
 ·exact agrow_pos h0 hn w
theorem wpl_append_terms {ops:Array Oper} {rest:List Oper} {o:Oper} {a:Act} {Q:Exit→Act→World→Prop} {w:World} (hgd:o.guard=none) (s x:Operand)
  (ho:o.op = .call { callee := .builtin .append,args:=#[s,x],argTypes:=#[56, 56] }) (n0:Nat) (p:Option Addr) (c:Nat) (l:List Trm) (hs:a.eval s = .slice p l.length c) (hown:OT w n0 p c l)
  (q:Option Addr) (d:Nat) (m:List Trm) (hx:a.eval x = .slice q m.length d) (hr:TAt 62 w q m) (hl:l.length≤100000) (hm:m.length≤100000) (hbase:n0≤w.heap.size)
  (h:∀ p' c' w',OT w' n0 p' c' (l ++ m)→w.grownBy w' (Value.slice p l.length c).ownBlock→wpList Tryz.prog ops Q rest (a.put o.dst (.slice p' (l.length+m.length) c')) w'):wpList Tryz.prog ops Q (o :: rest) a w:=by
 obtain ⟨i0,hi,hz0,hz1,hz2⟩:=info_parts termInfo
 have hlen:(uCells (raws m)).length=m.length * 3:=by rw [uCells_length,raws_length]
 refine wpList_append_reads _ hgd s x 56 ho n0 62 i0 (.agg #[.int .i64 0,.string ⟨#[]⟩,.string ⟨#[]⟩]) 3 40 Tryz.underlying56 hi hz0 hz1 hz2 rfl (by decide) (.slice p l.length c) l.length (uCells (raws l)) hs hown w.heap.size q m.length d
  (uCells (raws m)) hx ?_ (uCells_one _) (by unfold maxLen;omega) (by omega) hbase ?_
 ·refine ⟨hlen,fun h0 => ?_⟩
  rcases hr with ⟨he,_⟩ | ⟨g,cur,rfl,hg,hx⟩
  ·have:=congrArg List.length he;rw [raws_length,List.length_nil] at this;omega
  ·refine ⟨_,rfl,hg.1,fun j u hu => ?_⟩
   have hu2:cur[j]? = some u:=by
    rw [← hx,List.getElem?_take] at hu
    split at hu
    ·rwa [Array.getElem?_toList] at hu
    ·cases hu
   have:=Row.cell_lit' hg j hu2
   rcases Nat.eq_zero_or_pos j with rfl | hj
   ·simpa [Addr.add] using this
   ·simpa [Addr.add,Nat.ne_of_gt hj] using this
 ·intro v' w' hown' hg
  obtain ⟨p',c',rfl⟩:=own_slice hown'
  have hl2:(l ++ m).length=l.length+m.length:=by simp
  rw [← uCells_app,← raws_app] at hown'
  exact h p' c' w' (by unfold OT;rw [hl2];exact hown') hg
def ConcatRes (a b:List Trm) (w:World) (e:Ending) (w':World):Prop:=∃ p c,TAt 62 w' p (a ++ b)∧e = .returned (.slice p (a ++ b).length c)∧Below w.heap.size w w'
theorem aconcat {a b:List Trm} (la:a.length≤100) (lb:b.length≤100) (sb:Nat) (pa:Option Addr) (ca:Nat) (pb:Option Addr) (cb:Nat) (w:World) (rs:Row w sb (.cells #[.slice pa a.length ca,.slice pb b.length cb] 56)) (hpa:TAt 62 w pa a) (hpb:TAt 62 w pb b) :
  Calls Tryz.prog 102 #[.slice (some ⟨sb,0,none⟩) 2 2] w (ConcatRes a b w):=by
 have hB:Below w.heap.size w w:=Below.refl _ _
 have HPa:=Lib.hid hpa
 have HPb:=Lib.hid hpb
 have hnI:(a.length:Int)≤100:=by omega
 have hmI:(b.length:Int)≤100:=by omega
 have MG:=fun W=>agrow (n:=a.length+b.length) (by omega) W
 unfold GrowRes at MG
 have hnm:((a.length+b.length:Nat):Int)=(a.length:Int)+(b.length:Int):=by omega
 rw [hnm] at MG
 have la2:a.length≤100000:=by omega
 have lb2:b.length≤100000:=by omega
 have lsb:=rs.1
 clear hpa hpb hnm la lb
 have ss:=RF2 rs
 unfold ConcatRes
 go_enter Tryz.func102, Tryz.ntmps102
 have h0a:¬ (a.length:Int)<0:=by omega
 have h0b:¬ (a.length:Int)+(b.length:Int)<0:=by omega
 go_wp2_with fail
 refine wp_loop_unroll (loopWp_step ?_)
 go_wp2_with fail
 refine loopWp_step ?_
 go_wp2_with fail
 refine loopWp_step ?_
 go_wp2_with fail
 refine (MG _).mono ?_
 rintro e W1 ⟨pg,cg,hown,rfl,h1⟩
 have stp:=St1 hB h1 rs;clear hB h1 rs ss
 obtain ⟨hB,rs⟩:=stp
 have ss:=RF2 rs
 have hw1:=hB.size
 go_wp2_with fail
 refine wp_loop_unroll (loopWp_step ?_)
 go_wp2_with (at_builtin;refine wpl_append_terms rfl (.tmp 31) (.tmp 32) rfl w.heap.size pg cg [] rfl hown pa ca a rfl (UAt.below HPa.out hB) (by first | omega | (simp;done)) (by omega) hB.size ?_;intro p1 c1 Y1 hown' hg';replace rs:=own_row_ne hown hg' rs lsb;replace hB:=Below.grown hB hg' hB.size (fun k hk=>by have:=(World.ownsRow.lt hown k hk).1;omega);replace hown:=hown';clear hown' hg' ss;have ss:=RF2 rs)
 go_wp2_with fail
 refine loopWp_step ?_
 go_wp2_with (at_builtin;refine wpl_append_terms rfl (.tmp 31) (.tmp 32) rfl w.heap.size p1 c1 a rfl hown pb cb b rfl (UAt.below HPb.out hB) (by first | omega | (simp;done)) (by omega) hB.size ?_;intro p2 c2 Y2 hown' hg';replace rs:=own_row_ne hown hg' rs lsb;replace hB:=Below.grown hB hg' hB.size (fun k hk=>by have:=(World.ownsRow.lt hown k hk).1;omega);replace hown:=hown';clear hown' hg' ss;have ss:=RF2 rs)
 go_wp2_with fail
 refine loopWp_step ?_
 go_wp2
 go_ret
 exact ⟨p2,c2,OT.tat hown,by rw [List.length_append];rfl,hB⟩
end Go.Proofs.YtnokpldomlmamaaGreatDoor
namespace Go.Proofs.YtnokpldomlmamaaGreatDoor
open Go Go.RowKit Go.Lib Go.Shelf
theorem afind1 (x:RT) (z:Int) (w:World):Calls Tryz.prog 163 #[uV x,.int .i64 z] w (IntIs (compareInt x.s z) w):=by
 have hB:Below w.heap.size w w:=Below.refl _ _
 have M:=fun W=>acompare x.s z W
 unfold IntIs uV at *
 generalize compareInt x.s z=r at *
 go_enter Tryz.func163, Tryz.ntmps163
 go_wp2_with fail
 have sB:=hB.size
 refine world_cut (fun X=>Below w.heap.size w X) BW ?_
 clear hB sB
 rintro V1 hB
 refine (M _).mono ?_
 rintro e W2 ⟨rfl,h1⟩
 have stp:=St0 hB h1;clear hB h1
 have hB:=stp;clear stp
 go_wp2
 go_ret
 exact ⟨rfl,hB⟩
theorem compareInt_lt {x y:Int}:compareInt x y<0 ↔ x<y:=by unfold compareInt;split <;> (try split) <;> omega
theorem compareInt_eq {x y:Int}:compareInt x y=0 ↔ x=y:=by unfold compareInt;split <;> (try split) <;> omega
theorem abinary {l:List Trm} (hs:SrcOk l) (id:Nat) (p:Option Addr) (n c:Nat) (hn:l.length=n) (hn1:n≤1000000) (w:World) (hp:TAt 62 w p l):Calls Tryz.prog 162 #[.slice p n c,.int .i64 (id:Int),.func (.func 163) #[] #[]] w (fun e w'=>∃ (i:Nat) (b:Bool),e = .returned (.tuple #[.int .i64 (i:Int),.bool b])∧(b=true→i<n∧(trD l i).s=id)∧(b=false→look l id=none)∧Below w.heap.size w w'):=by
 have hB:Below w.heap.size w w:=Below.refl _ _
 have HP:=Lib.hid hp
 clear hp
 have hnI:(n:Int)≤1000000:=by omega
 have MF:=fun (t:Trm) W=>afind1 t.raw (id:Int) W
 unfold IntIs uV Trm.raw at MF
 have HS:=Lib.hid hs
 clear hs
 go_enter Tryz.func162, Tryz.ntmps162
 go_wp2_with fail
 go_loopw [9,10] (fun v9 v10 wr=>∃ i j:Nat,v9 = .int .i64 (i:Int)∧v10 = .int .i64 (j:Int)∧i≤j∧j≤n∧(∀ t,t<i→(trD l t).s<id)∧(∀ t,j≤t→t<n→id≤(trD l t).s)∧Below w.heap.size w wr) (fun v9 v10 _=>(RowKit.intOf v10 - RowKit.intOf v9).toNat)
 case atStart=>exact ⟨0,n,rfl,rfl,by omega,by omega,fun t ht=>absurd ht (by omega),fun t h1 h2=>absurd h1 (by omega),hB⟩
 case round =>
  clear hB
  obtain ⟨i,j,rfl,rfl,hij,hjn,hlo,hhi,hB⟩:=hrel
  rcases Nat.lt_or_ge i j with hlt | hge
  ·obtain ⟨h,hh⟩:∃ h:Nat,(i+j) / 2=h:=⟨_,rfl⟩
   have hij:(i:Int)<(j:Int):=by omega
   have hE:((i:Int)+(j:Int)) / 2=(h:Int):=by omega
   have hi1:i≤h:=by omega
   have hj1:h<j:=by omega
   have hhl:h<l.length:=by omega
   have hhn:(h:Int)<(n:Int):=by omega
   obtain ⟨x,hx⟩:∃ x,x=trD l h:=⟨_,rfl⟩
   have HX:=Lib.hid hx
   have MF:=MF x
   have HN:=Lib.hid hn
   clear hh hn
   obtain ⟨g,gcur,rfl,rg,g0,g1,g2⟩:=TAt.at (UAt.below HP.out hB) hhl
   rw [← hx] at g0 g1 g2
   clear hx
   have Fg:∀ X,Row X g (.cells gcur 62)→(g<X.heap.size∧X.cell? ⟨g,h * 3,none⟩=some (.int .i64 (x.s:Int))∧X.cell? ⟨g,h * 3+1,none⟩=some (.string (S x.c.num))∧X.cell? ⟨g,h * 3+2,none⟩=some (.string (S (x.c.den:Int)))):=fun X h=>⟨h.1,Row.cell_at h _ g0,Row.cell_at h _ g1,Row.cell_at h _ g2⟩
   have sg:=Fg _ rg
   obtain ⟨r,hr⟩:∃ r,r=compareInt (x.s:Int) (id:Int):=⟨_,rfl⟩
   rw [← hr] at MF
   have HR:=Lib.hid hr
   clear hr hhl
   rcases Int.lt_or_le r 0 with hr0 | hr0
   ·go_wp2_with fail
    refine (MF _).mono ?_
    rintro e W1 ⟨rfl,h1⟩
    have stp:=St1 hB h1 rg;clear hB h1 rg sg
    obtain ⟨hB,rg⟩:=stp
    have sg:=Fg _ rg
    go_wp2
    go_roundw
    case rel=>exact ⟨h+1,j,by go_num,rfl,by omega,hjn,fun t ht=>(by have hlx:(x.s:Int)<(id:Int):=compareInt_lt.1 (HR.out ▸ hr0);rcases Nat.lt_succ_iff_lt_or_eq.1 ht with h4 | h4;(· have:=HS.out.lt h4 (by have:=HN.out;omega);rw [← HX.out] at this;omega);(· rw [h4,← HX.out];omega)),hhi,BW⟩
    case measure=>simp [RowKit.intOf];omega
   ·have hr1:¬ r<0:=by omega
    clear hr0
    go_wp2_with fail
    refine (MF _).mono ?_
    rintro e W1 ⟨rfl,h1⟩
    have stp:=St1 hB h1 rg;clear hB h1 rg sg
    obtain ⟨hB,rg⟩:=stp
    have sg:=Fg _ rg
    go_wp2
    go_roundw
    case rel=>exact ⟨i,h,rfl,rfl,by omega,by omega,hlo,fun t h3 h4=>(by have hlx:¬ (x.s:Int)<(id:Int):=fun e=>(by have h9:r<0:=HR.out ▸ compareInt_lt.2 e;omega);rcases Nat.eq_or_lt_of_le h3 with h5 | h5;(· rw [← h5,← HX.out];omega);(· have:=HS.out.lt h5 (by have:=HN.out;omega);rw [← HX.out] at this;omega)),BW⟩
    case measure=>simp [RowKit.intOf];omega
  ·obtain rfl:j=i:=by omega
   clear hge hij
   rcases Nat.lt_or_ge j n with hjl | hjl
   ·have hjl2:j<l.length:=by omega
    have hjI:(j:Int)<(n:Int):=by omega
    obtain ⟨x,hx⟩:∃ x,x=trD l j:=⟨_,rfl⟩
    have HX:=Lib.hid hx
    have MF:=MF x
    have HN:=Lib.hid hn
    clear hn
    obtain ⟨g,gcur,rfl,rg,g0,g1,g2⟩:=TAt.at (UAt.below HP.out hB) hjl2
    rw [← hx] at g0 g1 g2
    clear hx
    have Fg:∀ X,Row X g (.cells gcur 62)→(g<X.heap.size∧X.cell? ⟨g,j * 3,none⟩=some (.int .i64 (x.s:Int))∧X.cell? ⟨g,j * 3+1,none⟩=some (.string (S x.c.num))∧X.cell? ⟨g,j * 3+2,none⟩=some (.string (S (x.c.den:Int)))):=fun X h=>⟨h.1,Row.cell_at h _ g0,Row.cell_at h _ g1,Row.cell_at h _ g2⟩
    have sg:=Fg _ rg
    obtain ⟨r,hr⟩:∃ r,r=compareInt (x.s:Int) (id:Int):=⟨_,rfl⟩
    rw [← hr] at MF
    have HR:=Lib.hid hr
    clear hr hjl2
    obtain ⟨b,hb⟩:∃ b,b=decide (r=0):=⟨_,rfl⟩
    have HB:=Lib.hid hb
    by_cases hr0:r=0
    ·have HR0:=Lib.hid hr0
     subst hr0
     go_wp2_with fail
     refine (MF _).mono ?_
     rintro e W1 ⟨rfl,h1⟩
     have stp:=St1 hB h1 rg;clear hB h1 rg sg
     obtain ⟨hB,rg⟩:=stp
     have sg:=Fg _ rg
     go_wp2
     go_ret2
     exact ⟨j,true,rfl,fun _=>(by have:=compareInt_eq.1 (HR.out.symm:compareInt (x.s:Int) (id:Int)=0);rw [← HX.out];exact ⟨hjl,by omega⟩),(fun h=>by cases h),hB⟩
    ·have hr2:(r == 0)=false:=beq_eq_false_iff_ne.2 hr0
     go_wp2_with fail
     refine (MF _).mono ?_
     rintro e W1 ⟨rfl,h1⟩
     have stp:=St1 hB h1 rg;clear hB h1 rg sg
     obtain ⟨hB,rg⟩:=stp
     have sg:=Fg _ rg
     go_wp2
     go_ret2
     exact ⟨j,false,rfl,(fun h=>by cases h),fun _=>look_none.2 (fun t ht=>(by obtain ⟨k,hk,rfl⟩:=List.getElem_of_mem ht;rw [← trD_get hk];intro e;rcases Nat.lt_trichotomy k j with h4 | h4 | h4;(· have:=hlo k h4;omega);(· subst h4;rw [← HX.out] at e;exact hr0 (by rw [HR.out];exact compareInt_eq.2 (by omega)));(· have:=HS.out.lt h4 hk;rw [← HX.out] at this;have h6:=hhi j (Nat.le_refl _) (by have:=HN.out;omega);rw [← HX.out] at h6;omega))),hB⟩
   ·obtain rfl:n=j:=by omega
    go_wp2
    go_ret2
    exact ⟨n,false,rfl,(fun h=>by cases h),fun _=>look_none.2 (fun t ht=>(by obtain ⟨k,hk,rfl⟩:=List.getElem_of_mem ht;rw [← trD_get hk];intro e;have:=hlo k (by omega);omega)),hB⟩
def FindIs (l:List Trm) (id:Nat) (w:World) (e:Ending) (w':World):Prop:=e = .returned (.tuple #[Q (cf l id),.bool (look l id).isSome])∧Below w.heap.size w w'
theorem afind {l:List Trm} (hs:SrcOk l) (id:Nat) (p:Option Addr) (n c:Nat) (hn:l.length=n) (hn1:n≤1000000) (w:World) (hp:TAt 62 w p l) (he:Env w):Calls Tryz.prog 95 #[.slice p n c,.int .i64 (id:Int)] w (FindIs l id w):=by
 have hB:Below w.heap.size w w:=Below.refl _ _
 have HP:=Lib.hid hp
 have MB:=fun W (hp:TAt 62 W p l)=>abinary hs id p n c hn hn1 W hp
 have M0:=fun W (H:Env W)=>awhole (n:=0) (by decide) whole0 W H
 have HS:=Lib.hid hs
 have HN:=Lib.hid hn
 unfold QIs at M0
 unfold FindIs
 obtain ⟨v,hv⟩:∃ v,cf l id=v:=⟨_,rfl⟩
 obtain ⟨s,hs2⟩:∃ s,(look l id).isSome=s:=⟨_,rfl⟩
 rw [hv,hs2]
 unfold Q at *
 have HV:=Lib.hid hv
 have HS2:=Lib.hid hs2
 clear hp hs hn hv hs2
 go_enter Tryz.func95, Tryz.ntmps95
 go_wp2_with fail
 have d0_o:w.heap.size≤w.heap.size:=by have:=hB.size;omega
 have sB:=hB.size
 refine world_cut (fun X=>Below w.heap.size w X∧Row X w.heap.size (.cells #[.string ⟨#[]⟩,.string ⟨#[]⟩] 112)) ⟨BW,RW8⟩ ?_
 clear hB sB
 rintro V1 ⟨hB,ro⟩
 have so:=RFz2 ro
 refine (MB _ (UAt.below HP.out hB)).mono ?_
 rintro e W2 ⟨i,b,rfl,h2,h3,h1⟩
 have stp:=St1 hB h1 ro;clear hB h1 ro so
 obtain ⟨hB,ro⟩:=stp
 have so:=RFz2 ro
 have H2:=Lib.hid h2
 have H3:=Lib.hid h3
 clear h2 h3
 cases b
 ·have hl:=H3.out rfl
  have e1:cf l id=0:=by unfold cf;rw [hl];rfl
  have e2:(look l id).isSome=false:=by rw [hl];rfl
  obtain ⟨z,hz⟩:∃ z:Rat,z=0:=⟨_,rfl⟩
  rw [← hz] at M0
  have HZV:=Lib.hid ((hz.trans e1.symm).trans HV.out)
  have HST:=Lib.hid (HS2.out.symm.trans e2)
  clear H2 H3 hl e1 e2 HV HS2 hz
  go_wp2_with fail
  refine (M0 _ (he.below hB)).mono ?_
  rintro e W3 ⟨rfl,h1⟩
  have stp:=St1 hB h1 ro;clear hB h1 ro so
  obtain ⟨hB,ro⟩:=stp
  have so:=RFz2 ro
  go_wp2_with fail
  have sB:=hB.size
  refine post_cut (fun X=>Below w.heap.size w X∧Row X w.heap.size (.cells #[.string (S z.num),.string (S (z.den:Int))] 112)) ⟨BW,RW8⟩ ?_
  clear ro
  clear so
  clear hB sB
  rintro V4 ⟨hB,ro⟩
  have so:=RFz2 ro
  refine bodyPost_ret (v := .tuple #[.agg #[.string (S z.num),.string (S (z.den:Int))],.bool false]) ?res rfl ⟨by rw [HZV.out,HST.out],hB⟩
  case res=>simp [results,Tryz.results95, go_sem,so]
 ·obtain ⟨hin,hid⟩:=H2.out rfl
  have hil:i<l.length:=by have:=HN.out;omega
  have hl:=look_at HS.out hil
  rw [hid] at hl
  have e1:cf l id=(trD l i).c:=by unfold cf;rw [hl];rfl
  have e2:(look l id).isSome=true:=by rw [hl];rfl
  have HXV0:=e1.symm.trans HV.out
  have HST:=Lib.hid (HS2.out.symm.trans e2)
  clear HV HS2
  obtain ⟨x,hx⟩:∃ x,x=trD l i:=⟨_,rfl⟩
  rw [← hx] at HXV0
  have HXV:=Lib.hid HXV0
  clear HXV0
  have hiI:(i:Int)<(n:Int):=by omega
  clear H2 H3 hl e1 e2 hid M0
  obtain ⟨g,gcur,rfl,rg,g0,g1,g2⟩:=TAt.at (UAt.below HP.out hB) hil
  rw [← hx] at g0 g1 g2
  clear hx
  have Fg:∀ X,Row X g (.cells gcur 62)→(g<X.heap.size∧X.cell? ⟨g,i * 3,none⟩=some (.int .i64 (x.s:Int))∧X.cell? ⟨g,i * 3+1,none⟩=some (.string (S x.c.num))∧X.cell? ⟨g,i * 3+2,none⟩=some (.string (S (x.c.den:Int)))):=fun X h=>⟨h.1,Row.cell_at h _ g0,Row.cell_at h _ g1,Row.cell_at h _ g2⟩
  have sg:=Fg _ rg
  go_wp2_with fail
  clear Fg
  have sB:=hB.size
  refine post_cut (fun X=>Below w.heap.size w X∧Row X w.heap.size (.cells #[.string (S x.c.num),.string (S (x.c.den:Int))] 112)) ⟨BW,RW8⟩ ?_
  clear ro
  clear so
  clear rg
  clear sg
  clear hB sB
  rintro V3 ⟨hB,ro⟩
  have so:=RFz2 ro
  refine bodyPost_ret (v := .tuple #[.agg #[.string (S x.c.num),.string (S (x.c.den:Int))],.bool true]) ?res rfl ⟨by rw [HXV.out,HST.out],hB⟩
  case res=>simp [results,Tryz.results95, go_sem,so]
end Go.Proofs.YtnokpldomlmamaaGreatDoor
namespace Go.Proofs.YtnokpldomlmamaaGreatDoor
open Go Go.Lib
/-! Forms that integers determine. -/
def mTo (x:Nat→Int):Nat→List Trm
 | 0=>[]
 | k+1=>if pk (x k) 17 - 8≠0∧(mTo x k).length<5 then mTo x k ++ [⟨k+1,Rat.divInt (pk (x k) 17 - 8) 4⟩] else mTo x k
def mForm (c r:Int) (x:Nat→Int):Frm:=⟨Rat.divInt (pk c 161 - 80) 4,mTo x 6,Rat.divInt (pk r 9) 4⟩
def vTo (x:Nat→Int) (k:Nat):List Trm:=(List.range k).map fun i=>⟨i+1,Rat.divInt (pk (x i) 17 - 8) 8⟩
def sTo (x:Nat→Int) (k:Nat):List Trm:=(List.range k).map fun i=>⟨i+1,Rat.divInt (pk (x i) 9) 8⟩
theorem mTo_len (x:Nat→Int):∀ k,(mTo x k).length≤5
 | 0=>by simp [mTo]
 | k+1=>by
  have h:=mTo_len x k
  unfold mTo
  split
  ·rw [List.length_append];simp only [List.length_cons,List.length_nil];omega
  ·exact h
theorem divInt_ne {n d:Int} (hd:0<d) (h:n≠0):Rat.divInt n d≠0:=by
 intro e
 have:=divInt_mul (n:=n) hd
 rw [e] at this
 have h2:((n:Int):Rat)=0:=by grind
 exact h (by exact_mod_cast h2)
theorem mTo_mem (x:Nat→Int):∀ k,∀ p,p ∈ mTo x k→1≤p.s∧p.s≤k∧p.c≠0∧Gr 4 8 p.c
 | 0=>fun p hp=>by simp [mTo] at hp
 | k+1=>fun p hp=>by
  have h:=mTo_mem x k
  unfold mTo at hp
  split at hp
  ·rename_i hc
   rcases List.mem_append.1 hp with hp | hp
   ·have:=h p hp;exact ⟨this.1,by omega,this.2.2⟩
   ·simp only [List.mem_cons,List.not_mem_nil,or_false] at hp
    subst hp
    have h1:=pk_nonneg (x k) (n:=17) (by decide)
    have h2:=pk_lt (x k) (n:=17) (by decide)
    exact ⟨by show 1≤k+1;omega,Nat.le_refl _,divInt_ne (d:=4) (n:=pk (x k) 17 - 8) (by decide) hc.1,Gr.ofInt (d:=4) (by decide) (by omega)⟩
  ·have:=h p hp;exact ⟨this.1,by omega,this.2.2⟩
theorem mTo_asc (x:Nat→Int):∀ k,(mTo x k).Pairwise fun a b=>a.s<b.s
 | 0=>by simp [mTo]
 | k+1=>by
  have h:=mTo_asc x k
  unfold mTo
  split
  ·refine List.pairwise_append.2 ⟨h,by simp,fun a ha b hb => ?_⟩
   simp only [List.mem_cons,List.not_mem_nil,or_false] at hb
   subst hb
   have:=mTo_mem x k a ha
   show a.s<k+1
   omega
  ·exact h
theorem mForm_ok (c r:Int) (x:Nat→Int):(mForm c r x).Ok where
 few:=by have:=mTo_len x 6;show (mTo x 6).length≤64;omega
 src:=⟨fun p hp=>by have:=mTo_mem x 6 p hp;exact ⟨this.1,by omega⟩,mTo_asc x 6⟩
 nz:=fun p hp=>(mTo_mem x 6 p hp).2.2.1
 rest:=divInt_nonneg' (by decide) (pk_nonneg r (by decide))
theorem mForm_gr (c r:Int) (x:Nat→Int):FGr 4 80 (mForm c r x) where
 c:=by
  have h1:=pk_nonneg c (n:=161) (by decide)
  have h2:=pk_lt c (n:=161) (by decide)
  exact Gr.ofInt (d:=4) (by decide) (by omega)
 t:=fun p hp=>((mTo_mem x 6 p hp).2.2.2).mono (by decide)
 r:=by
  have h1:=pk_nonneg r (n:=9) (by decide)
  have h2:=pk_lt r (n:=9) (by decide)
  exact Gr.ofInt (d:=4) (by decide) (by omega)
theorem mForm_len (c r:Int) (x:Nat→Int):(mForm c r x).t.length≤5:=mTo_len x 6
theorem rng_asc {f:Nat→Trm} (hf:∀ i,(f i).s=i+1) (k:Nat):((List.range k).map f).Pairwise fun a b=>a.s<b.s:=by
 induction k with
 | zero=>simp
 | succ k ih =>
  rw [List.range_succ,List.map_append]
  refine List.pairwise_append.2 ⟨ih,by simp,fun a ha b hb => ?_⟩
  obtain ⟨i,hi,rfl⟩:=List.mem_map.1 ha
  simp only [List.map_cons,List.map_nil,List.mem_cons,List.not_mem_nil,or_false] at hb
  subst hb
  have:=List.mem_range.1 hi
  rw [hf,hf]
  omega
theorem rng_src {f:Nat→Trm} (hf:∀ i,(f i).s=i+1) {k:Nat} (hk:k≤1000000):SrcOk ((List.range k).map f):=by
 refine ⟨fun p hp => ?_,rng_asc hf k⟩
 obtain ⟨i,hi,rfl⟩:=List.mem_map.1 hp
 have:=List.mem_range.1 hi
 rw [hf]
 omega
theorem vTo_src (x:Nat→Int) {k:Nat} (hk:k≤1000000):SrcOk (vTo x k):=rng_src (fun _=>rfl) hk
theorem sTo_src (x:Nat→Int) {k:Nat} (hk:k≤1000000):SrcOk (sTo x k):=rng_src (fun _=>rfl) hk
theorem vTo_gr (x:Nat→Int) (k:Nat):∀ p,p ∈ vTo x k→Gr 8 8 p.c:=fun p hp=>by
 obtain ⟨i,hi,rfl⟩:=List.mem_map.1 hp
 have h1:=pk_nonneg (x i) (n:=17) (by decide)
 have h2:=pk_lt (x i) (n:=17) (by decide)
 exact Gr.ofInt (d:=8) (by decide) (by omega)
theorem sTo_gr (x:Nat→Int) (k:Nat):∀ p,p ∈ sTo x k→Gr 8 8 p.c:=fun p hp=>by
 obtain ⟨i,hi,rfl⟩:=List.mem_map.1 hp
 have h1:=pk_nonneg (x i) (n:=9) (by decide)
 have h2:=pk_lt (x i) (n:=9) (by decide)
 exact Gr.ofInt (d:=8) (by decide) (by omega)
theorem divInt_bounds {n d:Int} (hd:0<d) (h1 : -d≤n) (h2:n≤d) : -1≤Rat.divInt n d∧Rat.divInt n d≤1:=by
 constructor
 ·refine (le_divInt hd).2 ?_
  have:((-d:Int):Rat)≤(n:Rat):=by exact_mod_cast h1
  push_cast at this
  grind
 ·refine (divInt_le hd).2 ?_
  have:((n:Int):Rat)≤(d:Rat):=by exact_mod_cast h2
  grind
theorem vTo_between (x:Nat→Int) (k:Nat):∀ p,p ∈ vTo x k → -1≤p.c∧p.c≤1:=fun p hp=>by
 obtain ⟨i,hi,rfl⟩:=List.mem_map.1 hp
 have h1:=pk_nonneg (x i) (n:=17) (by decide)
 have h2:=pk_lt (x i) (n:=17) (by decide)
 exact divInt_bounds (by decide) (by omega) (by omega)
theorem sTo_between (x:Nat→Int) (k:Nat):∀ p,p ∈ sTo x k→0≤p.c∧p.c≤1:=fun p hp=>by
 obtain ⟨i,hi,rfl⟩:=List.mem_map.1 hp
 have h1:=pk_nonneg (x i) (n:=9) (by decide)
 have h2:=pk_lt (x i) (n:=9) (by decide)
 exact ⟨divInt_nonneg' (by decide) h1,(divInt_bounds (n:=pk (x i) 9) (d:=8) (by decide) (by omega) (by omega)).2⟩
theorem vTo_len (x:Nat→Int) (k:Nat):(vTo x k).length=k:=by simp [vTo]
theorem sTo_len (x:Nat→Int) (k:Nat):(sTo x k).length=k:=by simp [sTo]
theorem vTo_succ (x:Nat→Int) (k:Nat):vTo x (k+1)=vTo x k ++ [⟨k+1,Rat.divInt (pk (x k) 17 - 8) 8⟩]:=by unfold vTo;rw [List.range_succ,List.map_append];rfl
theorem sTo_succ (x:Nat→Int) (k:Nat):sTo x (k+1)=sTo x k ++ [⟨k+1,Rat.divInt (pk (x k) 9) 8⟩]:=by unfold sTo;rw [List.range_succ,List.map_append];rfl
/-! Cancels. -/
def constF (q:Rat):Frm:=⟨q,[],0⟩
theorem lin_src {p q:Rat} {a b:List Trm} (ha:SrcOk a) (hb:SrcOk b):SrcOk (lin p q a b):=(lin_ok ha hb).ok.srcOk (Nat.le_refl _)
theorem lin_nz {p q:Rat} {a b:List Trm} (ha:SrcOk a) (hb:SrcOk b):∀ t,t ∈ lin p q a b→t.c≠0:=(lin_ok ha hb).ok.nz
theorem lin_cf {p q:Rat} {a b:List Trm} (ha:SrcOk a) (hb:SrcOk b) (id:Nat):cf (lin p q a b) id=p * cf a id+q * cf b id:=(lin_ok ha hb).cf id
theorem absQ_one:absQ 1=1:=by unfold absQ;rw [if_neg (by decide)]
theorem absQ_minus:absQ (-1)=1:=by unfold absQ;rw [if_pos (by decide)];grind
theorem absQ_zero:absQ 0=0:=by unfold absQ;rw [if_neg (by decide)]
theorem sub_self_form {a:Frm} (h:a.Ok):combF 1 (-1) a a=⟨0,[],a.r+a.r⟩:=by
 unfold combF
 have ht:lin 1 (-1) a.t a.t=[]:=terms_ext (lin_src h.src h.src) SrcOk.nil (lin_nz h.src h.src) (by simp) fun id=>by rw [lin_cf h.src h.src,cf_nil];grind
 rw [ht,absQ_one,absQ_minus]
 congr 1 <;> grind
theorem add_sub_form {a b:Frm} (ha:a.Ok) (hb:b.Ok):(combF 1 (-1) (combF 1 1 a b) b).c=a.c∧(combF 1 (-1) (combF 1 1 a b) b).t=a.t:=by
 refine ⟨by show 1 * (1 * a.c+1 * b.c) + -1 * b.c=a.c;grind,?_⟩
 show lin 1 (-1) (lin 1 1 a.t b.t) b.t=a.t
 have hs:=lin_src (p:=1) (q:=1) ha.src hb.src
 exact terms_ext (lin_src hs hb.src) ha.src (lin_nz hs hb.src) ha.nz fun id=>by rw [lin_cf hs hb.src,lin_cf ha.src hb.src];grind
/-- A combination is valid, if it has few terms. -/
theorem comb_ok {p q:Rat} {a b:Frm} (ha:a.Ok) (hb:b.Ok) (h:(lin p q a.t b.t).length≤64):(combF p q a b).Ok where
 few:=h
 src:=lin_src ha.src hb.src
 nz:=lin_nz ha.src hb.src
 rest:=by
  have h1:=Rat.mul_nonneg (absQ_nonneg p) ha.rest
  have h2:=Rat.mul_nonneg (absQ_nonneg q) hb.rest
  show 0≤absQ p * a.r+absQ q * b.r
  grind
theorem const_ok (q:Rat):(constF q).Ok:=⟨by simp [constF],SrcOk.nil,by simp [constF],Rat.le_refl⟩
/-! Products. -/
def mulF (a b:Frm):Frm:=⟨a.c * b.c,lin b.c a.c a.t b.t,absQ b.c * a.r+absQ a.c * b.r+rad a * rad b⟩
theorem mulF_ok {a b:Frm} (ha:a.Ok) (hb:b.Ok) (h:(lin b.c a.c a.t b.t).length≤64):(mulF a b).Ok where
 few:=h
 src:=lin_src ha.src hb.src
 nz:=lin_nz ha.src hb.src
 rest:=by
  have h1:=Rat.mul_nonneg (absQ_nonneg b.c) ha.rest
  have h2:=Rat.mul_nonneg (absQ_nonneg a.c) hb.rest
  have h3:=Rat.mul_nonneg (rad_nonneg ha.rest) (rad_nonneg hb.rest)
  show 0≤absQ b.c * a.r+absQ a.c * b.r+rad a * rad b
  grind
theorem mul_const {a:Frm} (h:a.Ok) (q:Rat):mulF (constF q) a=combF q 0 a (constF 0):=by
 unfold mulF combF constF
 have ht:lin a.c q [] a.t=lin q 0 a.t []:=terms_ext (lin_src SrcOk.nil h.src) (lin_src h.src SrcOk.nil) (lin_nz SrcOk.nil h.src) (lin_nz h.src SrcOk.nil) fun id=>by
  rw [lin_cf SrcOk.nil h.src,lin_cf h.src SrcOk.nil,cf_nil];grind
 simp only [ht,absQ_zero]
 have hr:rad ⟨q,[],0⟩=0:=by unfold rad;show (0:Rat)+0=0;grind
 rw [hr]
 congr 1 <;> grind
/-! Ranges. -/
def sumAbs (l:List Trm):Rat:=radTo l l.length
theorem trD_app_left {l m:List Trm} {k:Nat} (h:k<l.length):trD (l ++ m) k=trD l k:=by
 rw [trD_get h,trD_get (by rw [List.length_append];omega),List.getElem_append_left h]
theorem radTo_app (l m:List Trm):∀ k,k≤l.length→radTo (l ++ m) k=radTo l k
 | 0,_=>rfl
 | k+1,h=>by
  show radTo (l ++ m) k+absQ (trD (l ++ m) k).c=radTo l k+absQ (trD l k).c
  rw [radTo_app l m k (by omega),trD_app_left (by omega)]
theorem sumAbs_snoc (l:List Trm) (x:Trm):sumAbs (l ++ [x])=sumAbs l+absQ x.c:=by
 unfold sumAbs
 rw [List.length_append]
 show radTo (l ++ [x]) l.length+absQ (trD (l ++ [x]) l.length).c=_
 rw [radTo_app l [x] _ (Nat.le_refl _),trD_get (by simp)]
 simp
theorem radTo_take (l:List Trm):∀ k,k≤l.length→sumAbs (l.take k)=radTo l k
 | 0,_=>by simp [sumAbs,radTo]
 | k+1,h=>by rw [take_trD (by omega),sumAbs_snoc,radTo_take l k (by omega)];rfl
/-- Between -1 and 1. -/
def Unit1 (vs:List Trm):Prop:=∀ p,p ∈ vs → -1≤p.c∧p.c≤1
theorem look_mem {l:List Trm} {id:Nat} {v:Rat} (h:look l id=some v):∃ p,p ∈ l∧p.s=id∧p.c=v:=by
 unfold look at h
 obtain ⟨p,hp,rfl⟩:=Option.map_eq_some_iff.1 h
 refine ⟨p,List.mem_of_find?_eq_some hp,?_,rfl⟩
 have:=List.find?_some hp
 simpa using this
theorem look_unit {vs:List Trm} (h:Unit1 vs) {id:Nat} {v:Rat} (hl:look vs id=some v) : -1≤v∧v≤1:=by
 obtain ⟨p,hp,_,rfl⟩:=look_mem hl
 exact h p hp
theorem abs_mul_unit {c v:Rat} (h1 : -1≤v) (h2:v≤1):c * v≤absQ c ∧ -(absQ c)≤c * v:=by
 unfold absQ
 split
 ·rename_i h
  have e1:=Rat.mul_nonneg (show 0 ≤ -c by grind) (show 0≤1+v by grind)
  have e2:=Rat.mul_nonneg (show 0 ≤ -c by grind) (show 0≤1 - v by grind)
  constructor <;> grind
 ·rename_i h
  have e1:=Rat.mul_nonneg (show 0≤c by grind) (show 0≤1+v by grind)
  have e2:=Rat.mul_nonneg (show 0≤c by grind) (show 0≤1 - v by grind)
  constructor <;> grind
/-- What is known of more sources is known more narrowly: the first terms. -/
theorem at_narrow {vs ws:List Trm} (c:Rat) (l:List Trm) (hw:Unit1 ws) (h:∀ id v,look vs id=some v→look ws id=some v):∀ k,k≤l.length →
  midTo ws c l k+sumAbs (others ws (l.take k))≤midTo vs c l k+sumAbs (others vs (l.take k))∧midTo vs c l k - sumAbs (others vs (l.take k))≤midTo ws c l k - sumAbs (others ws (l.take k))
 | 0,_=>by simp [midTo,others,sumAbs,radTo]
 | k+1,hk=>by
  obtain ⟨i1,i2⟩:=at_narrow c l hw h k (by omega)
  rw [others_take (by omega),others_take (by omega)]
  cases hv:look vs (trD l k).s with
  | some v =>
   have hw':=h _ _ hv
   have m1:midTo ws c l (k+1)=midTo ws c l k+(trD l k).c * v:=by show (match look ws (trD l k).s with | some v=>_ | none=>_)=_;rw [hw']
   have m2:midTo vs c l (k+1)=midTo vs c l k+(trD l k).c * v:=by show (match look vs (trD l k).s with | some v=>_ | none=>_)=_;rw [hv]
   rw [hw',m1,m2,if_neg (by simp),if_neg (by simp)]
   constructor <;> grind
  | none =>
   have m2:midTo vs c l (k+1)=midTo vs c l k:=by show (match look vs (trD l k).s with | some v=>_ | none=>_)=_;rw [hv]
   rw [m2,if_pos rfl,sumAbs_snoc]
   cases hx:look ws (trD l k).s with
   | none =>
    have m1:midTo ws c l (k+1)=midTo ws c l k:=by show (match look ws (trD l k).s with | some v=>_ | none=>_)=_;rw [hx]
    rw [m1,if_pos rfl,sumAbs_snoc]
    constructor <;> grind
   | some v =>
    have m1:midTo ws c l (k+1)=midTo ws c l k+(trD l k).c * v:=by show (match look ws (trD l k).s with | some v=>_ | none=>_)=_;rw [hx]
    rw [m1,if_neg (by simp)]
    obtain ⟨u1,u2⟩:=look_unit hw hx
    obtain ⟨e1,e2⟩:=abs_mul_unit (c:=(trD l k).c) u1 u2
    constructor <;> grind
theorem at_sub {vs ws:List Trm} {f:Frm} (hw:Unit1 ws) (h:∀ id v,look vs id=some v→look ws id=some v):(atI f ws).Sub (atI f vs):=by
 obtain ⟨h1,h2⟩:=at_narrow f.c f.t hw h f.t.length (Nat.le_refl _)
 rw [List.take_length] at h1 h2
 unfold sumAbs at h1 h2
 unfold atI Iv.Sub rad
 constructor <;> (show _≤_;dsimp only;grind)
theorem look_take {l:List Trm} (h:SrcOk l) {k id:Nat} {v:Rat} (hl:look (l.take k) id=some v):look l id=some v:=by
 obtain ⟨p,hp,rfl,rfl⟩:=look_mem hl
 have hm:=List.mem_of_mem_take hp
 obtain ⟨i,hi,rfl⟩:=List.getElem_of_mem hm
 have:=look_at h hi
 rwa [trD_get hi] at this
theorem midTo_nil (c:Rat) (l:List Trm):∀ k,midTo [] c l k=c
 | 0=>rfl
 | k+1=>by unfold midTo;rw [look_nil];exact midTo_nil c l k
theorem others_nil (l:List Trm):others [] l=l:=by unfold others;simp [look_nil]
theorem at_nil (f:Frm):atI f []=rangeI f:=by unfold atI rangeI;rw [midTo_nil,others_nil];rfl
theorem at_ok {vs:List Trm} {f:Frm} (h:0≤f.r):(atI f vs).Ok:=by
 have:=rad_nonneg (f:=⟨0,others vs f.t,f.r⟩) h
 unfold atI Iv.Ok
 show _ - _≤_+_
 grind
/-- The values at which an end is reached. -/
def sgn (c:Rat):Int:=if c<0 then -1 else 1
def ends (l:List Trm) (up:Int):List Trm:=l.map fun t=>⟨t.s,Rat.divInt (up * sgn t.c) 1⟩
theorem ends_src {l:List Trm} (h:SrcOk l) (up:Int):SrcOk (ends l up) :=
 ⟨fun p hp=>by obtain ⟨t,ht,rfl⟩:=List.mem_map.1 hp;exact h.src t ht,List.pairwise_map.2 h.asc⟩
theorem ends_look {l:List Trm} (h:SrcOk l) (up:Int) {k:Nat} (hk:k<l.length):look (ends l up) (trD l k).s=some (Rat.divInt (up * sgn (trD l k).c) 1):=by
 have e:trD (ends l up) k=⟨(trD l k).s,Rat.divInt (up * sgn (trD l k).c) 1⟩:=by
  rw [trD_get (l:=ends l up) (by simpa [ends] using hk),trD_get hk];simp [ends]
 have:=look_at (ends_src h up) (i:=k) (by simpa [ends] using hk)
 rwa [e] at this
theorem sgn_abs (c:Rat):c * Rat.divInt (1 * sgn c) 1=absQ c∧c * Rat.divInt (-1 * sgn c) 1 = -(absQ c):=by
 have e1:Rat.divInt 1 1=1:=by decide +kernel
 have e2:Rat.divInt (-1) 1 = -1:=by decide +kernel
 unfold sgn absQ
 split
 ·rw [show (1:Int) * -1 = -1 by decide,show (-1:Int) * -1=1 by decide,e1,e2];constructor <;> grind
 ·rw [show (1:Int) * 1=1 by decide,show (-1:Int) * 1 = -1 by decide,e1,e2];constructor <;> grind
theorem ends_mid {l:List Trm} (h:SrcOk l) (c:Rat):∀ k,k≤l.length→midTo (ends l 1) c l k=c+radTo l k∧midTo (ends l (-1)) c l k=c - radTo l k
 | 0,_=>by constructor <;> (show c=_;show c=_ ; simp only [radTo];grind)
 | k+1,hk=>by
  obtain ⟨i1,i2⟩:=ends_mid h c k (by omega)
  have m1:midTo (ends l 1) c l (k+1)=midTo (ends l 1) c l k+(trD l k).c * Rat.divInt (1 * sgn (trD l k).c) 1:=by show (match look (ends l 1) (trD l k).s with | some v=>_ | none=>_)=_;rw [ends_look h 1 (by omega)]
  have m2:midTo (ends l (-1)) c l (k+1)=midTo (ends l (-1)) c l k+(trD l k).c * Rat.divInt (-1 * sgn (trD l k).c) 1:=by show (match look (ends l (-1)) (trD l k).s with | some v=>_ | none=>_)=_;rw [ends_look h (-1) (by omega)]
  have r1:radTo l (k+1)=radTo l k+absQ (trD l k).c:=rfl
  obtain ⟨s1,s2⟩:=sgn_abs (trD l k).c
  rw [m1,m2,i1,i2,s1,s2,r1]
  constructor <;> grind
theorem ends_others {l:List Trm} (h:SrcOk l) (up:Int):others (ends l up) l=[]:=by
 unfold others
 rw [List.filter_eq_nil_iff]
 intro t ht
 obtain ⟨k,hk,rfl⟩:=List.getElem_of_mem ht
 have:=ends_look h up hk
 rw [trD_get hk] at this
 rw [this]
 simp
theorem ends_reach {f:Frm} (h:SrcOk f.t):(atI f (ends f.t 1)).hi=(rangeI f).hi∧(atI f (ends f.t (-1))).lo=(rangeI f).lo:=by
 obtain ⟨m1,m2⟩:=ends_mid h f.c f.t.length (Nat.le_refl _)
 have hr:∀ r:Rat,rad ⟨0,[],r⟩=r:=fun r=>by unfold rad;show (0:Rat)+r=r;grind
 unfold atI rangeI
 rw [ends_others h,ends_others h,m1,m2,hr]
 unfold rad
 constructor <;> (dsimp only;grind)
theorem ends_unit {l:List Trm} (up:Int) (hu:up=1∨up = -1):Unit1 (ends l up):=fun p hp=>by
 obtain ⟨t,_,rfl⟩:=List.mem_map.1 hp
 refine divInt_bounds (by decide) ?_ ?_ <;> (unfold sgn;split <;> rcases hu with rfl | rfl <;> decide)
/-! Covariance. -/
def covTo (a b ss:List Trm):Nat→Rat
 | 0=>0
 | k+1=>covTo a b ss k+cf a (trD ss k).s * cf b (trD ss k).s * (trD ss k).c
theorem covTo_comm (a b ss:List Trm):∀ k,covTo a b ss k=covTo b a ss k
 | 0=>rfl
 | k+1=>by unfold covTo;rw [covTo_comm a b ss k];grind
theorem covTo_lin {a b c s ss:List Trm} {p q:Rat} (h:∀ id,cf s id=p * cf b id+q * cf c id):∀ k,covTo a s ss k=covTo a b ss k * p+covTo a c ss k * q
 | 0=>by unfold covTo;grind
 | k+1=>by unfold covTo;rw [covTo_lin h k,h];grind
theorem covTo_nonneg {a ss:List Trm} (h:∀ p,p ∈ ss→0≤p.c):∀ k,k≤ss.length→0≤covTo a a ss k
 | 0,_=>Rat.le_refl
 | k+1,hk=>by
  have h1:=covTo_nonneg (a:=a) h k (by omega)
  have h2:0≤cf a (trD ss k).s * cf a (trD ss k).s:=by
   rcases Rat.le_total (a:=0) (b:=cf a (trD ss k).s) with h | h
   ·exact Rat.mul_nonneg h h
   ·have:=Rat.mul_nonneg (show 0 ≤ -cf a (trD ss k).s by grind) (show 0 ≤ -cf a (trD ss k).s by grind)
    grind
  have h3:=Rat.mul_nonneg h2 (h _ (trD_mem (show k<ss.length by omega)))
  unfold covTo
  grind
/-- Cauchy and Schwarz, a step. -/
theorem schwarz_step {A B C x y v:Rat} (hA:0≤A) (hB:0≤B) (hv:0≤v) (h:C * C≤A * B):(C+x * y * v) * (C+x * y * v)≤(A+x * x * v) * (B+y * y * v):=by
 have sq:∀ z:Rat,0≤z * z:=fun z=>by
  rcases Rat.le_total (a:=0) (b:=z) with h | h
  ·exact Rat.mul_nonneg h h
  ·have:=Rat.mul_nonneg (show 0 ≤ -z by grind) (show 0 ≤ -z by grind);grind
 have hs:0≤A * (y * y)+B * (x * x):=by
  have h1:=Rat.mul_nonneg hA (sq y)
  have h2:=Rat.mul_nonneg hB (sq x)
  grind
 have key:C * (x * y)+C * (x * y)≤A * (y * y)+B * (x * x):=by
  refine le_of_sq hs ?_
  have h1:(C * C) * ((x * y) * (x * y))≤(A * B) * ((x * y) * (x * y)):=Rat.mul_le_mul_of_nonneg_right h (sq (x * y))
  have h2:=sq (A * (y * y) - B * (x * x))
  grind
 have:=Rat.mul_le_mul_of_nonneg_right key hv
 grind
theorem schwarz {a b ss:List Trm} (h:∀ p,p ∈ ss→0≤p.c):∀ k,k≤ss.length→covTo a b ss k * covTo a b ss k≤covTo a a ss k * covTo b b ss k
 | 0,_=>by unfold covTo;exact Rat.le_refl
 | k+1,hk=>schwarz_step (covTo_nonneg h k (by omega)) (covTo_nonneg h k (by omega)) (h _ (trD_mem (show k<ss.length by omega))) (schwarz h k (by omega))
end Go.Proofs.YtnokpldomlmamaaGreatDoor
