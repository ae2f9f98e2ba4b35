/-
 slices.Grow at no terms, slices.Concat over two slices of terms. slices.BinarySearchFunc over terms by their sources; find of package affine. Affine, plain: forms, values and sources that integers determine; what the laws say of combinations, ranges and covariances. No program in sight. Package affine: At, at valid forms and values, where nothing is too large.
-/
import Derived.Lib.AppendZeros
import Derived.Test.YtdikaoahgleffaaGreatDoorWALinear
import Derived.Test.YtdikaoahgleffaaGreatDoorWEValid
set_option linter.unusedSimpArgs false
set_option linter.unusedVariables false
set_option maxRecDepth 100000
set_option maxHeartbeats 16000000
namespace Go.Proofs.YtdikaoahgleffaaGreatDoor
open Go Go.RowKit Go.Lib Go.Shelf
def GrowRes (w:World) (e:Ending) (w':World):Prop:=∃ p c,w'.ownsRow w.heap.size 55 3 (.slice p 0 c) 0 []∧e = .returned (.slice p 0 c)∧Below w.heap.size w w'
theorem agrow_zero (w:World):Calls Tryz.prog 130 #[.slice none 0 0,.int .i64 0] w (GrowRes w):=by
 unfold GrowRes;go_enter Tryz.func130, Tryz.ntmps130;go_wp2;go_ret;exact ⟨none,0,⟨rfl,.inl ⟨rfl,rfl⟩⟩,rfl,Below.refl _ _⟩
theorem agrow_pos {n:Nat} (h0:0<n) (hn:n≤1000) (w:World):Calls Tryz.prog 130 #[.slice none 0 0,.int .i64 (n:Int)] w (GrowRes w):=by
 obtain ⟨i0,hi,hz0,hz1,hz2⟩:=info_parts termInfo;have hnI:(0:Int)<(n:Int):=by omega
 have hnI2:(n:Int)≤1000:=by omega
 have hrun:=fun ty=>Lib.run_append_nil_zeros (P:=Tryz.prog) w 28 3 ty 55 i0 (.agg #[.int .i64 0,.string ⟨#[]⟩,.string ⟨#[]⟩]) .i64 .i64 Tryz.underlying28 Tryz.underlying3 hi hz0 n h0 (by rw [hz1];decide) (by omega) (by rw [hz2];omega)
 have hge:=grownCap_ge w n 0 55;have hle:=grownCap_le_maxLen w n 0 55 (by unfold maxLen;omega);have hown:=World.ownsRow_made (e := 55) (base:=w.heap.size) (size:=3) w.drew (Builtin.zeroCells (Value.agg #[.int .i64 0,.string ⟨#[]⟩,.string ⟨#[]⟩]).cells n ++ Builtin.zeroCells (Value.agg #[.int .i64 0,.string ⟨#[]⟩,.string ⟨#[]⟩]).cells (grownCap w n 0 55 - n)) (grownCap w n 0 55) (Nat.le_refl _) hle
  (by rw [Array.size_append,size_zeroCells,size_zeroCells];show n * 3+(grownCap w n 0 55 - n) * 3=_;omega)
 generalize Builtin.zeroCells (Value.agg #[.int .i64 0,.string ⟨#[]⟩,.string ⟨#[]⟩]).cells n ++ Builtin.zeroCells (Value.agg #[.int .i64 0,.string ⟨#[]⟩,.string ⟨#[]⟩]).cells (grownCap w n 0 55 - n)=cur at *;generalize grownCap w n 0 55 = G at *;have hB:Below w.heap.size w (w.drew.alloc (.cells cur 55)):=((Below.refl _ w).drew).alloc (Nat.le_refl _) _;unfold maxLen at hle;have hG:(n:Int)≤(G:Int):=by omega
 have hG2:(G:Int)≤9223372036854775807:=by omega
 have HO:=Lib.hid hown;have HBB:=Lib.hid hB;clear hown hB hi hz0 hz1 hz2 h0 hn;unfold GrowRes;go_enter Tryz.func130, Tryz.ntmps130;go_wp2_with (at_builtin;refine Lib.wpList_append_run _ rfl _ _ _ _ rfl _ _ rfl rfl _ _ (hrun _) ?_);go_ret;exact ⟨_,_,HO.out,rfl,HBB.out⟩
theorem agrow {n:Nat} (hn:n≤1000) (w:World):Calls Tryz.prog 130 #[.slice none 0 0,.int .i64 (n:Int)] w (GrowRes w):=by
 rcases Nat.eq_zero_or_pos n with rfl | h0
 ·exact agrow_zero w
 ·exact agrow_pos h0 hn w
theorem wpl_append_terms {ops:Array Oper} {rest:List Oper} {o:Oper} {a:Act} {Q:Exit→Act→World→Prop} {w:World} (hgd:o.guard=none) (s x:Operand)
  (ho:o.op = .call { callee := .builtin .append,args:=#[s,x],argTypes:=#[28, 28] }) (n0:Nat) (p:Option Addr) (c:Nat) (l:List Trm) (hs:a.eval s = .slice p l.length c) (hown:OT w n0 p c l)
  (q:Option Addr) (d:Nat) (m:List Trm) (hx:a.eval x = .slice q m.length d) (hr:TAt 55 w q m) (hl:l.length≤100000) (hm:m.length≤100000) (hbase:n0≤w.heap.size)
  (h:∀ p' c' w',OT w' n0 p' c' (l ++ m)→w.grownBy w' (Value.slice p l.length c).ownBlock→wpList Tryz.prog ops Q rest (a.put o.dst (.slice p' (l.length+m.length) c')) w'):wpList Tryz.prog ops Q (o :: rest) a w:=by
 obtain ⟨i0,hi,hz0,hz1,hz2⟩:=info_parts termInfo;have hlen:(uCells (raws m)).length=m.length * 3:=by rw [uCells_length,raws_length]
 refine wpList_append_reads _ hgd s x 28 ho n0 55 i0 (.agg #[.int .i64 0,.string ⟨#[]⟩,.string ⟨#[]⟩]) 3 40 Tryz.underlying28 hi hz0 hz1 hz2 rfl (by decide) (.slice p l.length c) l.length (uCells (raws l)) hs hown w.heap.size q m.length d
  (uCells (raws m)) hx ?_ (uCells_one _) (by unfold maxLen;omega) (by omega) hbase ?_
 ·refine ⟨hlen,fun h0 => ?_⟩;rcases hr with ⟨he,_⟩ | ⟨g,cur,rfl,hg,hx⟩
  ·have:=congrArg List.length he;rw [raws_length,List.length_nil] at this;omega
  ·refine ⟨_,rfl,hg.1,fun j u hu => ?_⟩;have hu2:cur[j]? = some u:=by
    rw [← hx,List.getElem?_take] at hu;split at hu
    ·rwa [Array.getElem?_toList] at hu
    ·cases hu
   have:=Row.cell_lit' hg j hu2;rcases Nat.eq_zero_or_pos j with rfl | hj
   ·simpa [Addr.add] using this
   ·simpa [Addr.add,Nat.ne_of_gt hj] using this
 ·intro v' w' hown' hg;obtain ⟨p',c',rfl⟩:=own_slice hown';have hl2:(l ++ m).length=l.length+m.length:=by simp
  rw [← uCells_app,← raws_app] at hown';exact h p' c' w' (by unfold OT;rw [hl2];exact hown') hg
def ConcatRes (a b:List Trm) (w:World) (e:Ending) (w':World):Prop:=∃ p c,TAt 55 w' p (a ++ b)∧e = .returned (.slice p (a ++ b).length c)∧Below w.heap.size w w'
theorem aconcat {a b:List Trm} (la:a.length≤100) (lb:b.length≤100) (sb:Nat) (pa:Option Addr) (ca:Nat) (pb:Option Addr) (cb:Nat) (w:World) (rs:Row w sb (.cells #[.slice pa a.length ca,.slice pb b.length cb] 28)) (hpa:TAt 55 w pa a) (hpb:TAt 55 w pb b) :
  Calls Tryz.prog 82 #[.slice (some ⟨sb,0,none⟩) 2 2] w (ConcatRes a b w):=by
 have hB:Below w.heap.size w w:=Below.refl _ _;have HPa:=Lib.hid hpa;have HPb:=Lib.hid hpb;have hnI:(a.length:Int)≤100:=by omega
 have hmI:(b.length:Int)≤100:=by omega
 have MG:=fun W=>agrow (n:=a.length+b.length) (by omega) W
 unfold GrowRes at MG;have hnm:((a.length+b.length:Nat):Int)=(a.length:Int)+(b.length:Int):=by omega
 rw [hnm] at MG;have la2:a.length≤100000:=by omega
 have lb2:b.length≤100000:=by omega
 have lsb:=rs.1;clear hpa hpb hnm la lb;have ss:=RF2 rs;unfold ConcatRes;go_enter Tryz.func82, Tryz.ntmps82;have h0a:¬ (a.length:Int)<0:=by omega
 have h0b:¬ (a.length:Int)+(b.length:Int)<0:=by omega
 go_wp2_with fail;refine wp_loop_unroll (loopWp_step ?_);go_wp2_with fail;refine loopWp_step ?_;go_wp2_with fail;refine loopWp_step ?_;go_wp2_with fail;refine (MG _).mono ?_;rintro e W1 ⟨pg,cg,hown,rfl,h1⟩;have stp:=St1 hB h1 rs;clear hB h1 rs ss;obtain ⟨hB,rs⟩:=stp;have ss:=RF2 rs;have hw1:=hB.size;go_wp2_with fail;refine wp_loop_unroll (loopWp_step ?_);go_wp2_with (at_builtin;refine wpl_append_terms rfl (.tmp 31) (.tmp 32) rfl w.heap.size pg cg [] rfl hown pa ca a rfl (UAt.below HPa.out hB) (by first | omega | (simp;done)) (by omega) hB.size ?_;intro p1 c1 Y1 hown' hg';replace rs:=own_row_ne hown hg' rs lsb;replace hB:=Below.grown hB hg' hB.size (fun k hk=>by have:=(World.ownsRow.lt hown k hk).1;omega);replace hown:=hown';clear hown' hg' ss;have ss:=RF2 rs);go_wp2_with fail;refine loopWp_step ?_;go_wp2_with (at_builtin;refine wpl_append_terms rfl (.tmp 31) (.tmp 32) rfl w.heap.size p1 c1 a rfl hown pb cb b rfl (UAt.below HPb.out hB) (by first | omega | (simp;done)) (by omega) hB.size ?_;intro p2 c2 Y2 hown' hg';replace rs:=own_row_ne hown hg' rs lsb;replace hB:=Below.grown hB hg' hB.size (fun k hk=>by have:=(World.ownsRow.lt hown k hk).1;omega);replace hown:=hown';clear hown' hg' ss;have ss:=RF2 rs);go_wp2_with fail;refine loopWp_step ?_;go_wp2;go_ret;exact ⟨p2,c2,OT.tat hown,by rw [List.length_append];rfl,hB⟩
end Go.Proofs.YtdikaoahgleffaaGreatDoor
namespace Go.Proofs.YtdikaoahgleffaaGreatDoor
open Go Go.RowKit Go.Lib Go.Shelf
theorem afind1 (x:RT) (z:Int) (w:World):Calls Tryz.prog 125 #[uV x,.int .i64 z] w (IntIs (compareInt x.s z) w):=by
 have hB:Below w.heap.size w w:=Below.refl _ _;have M:=fun W=>acompare x.s z W
 unfold IntIs uV at *;generalize compareInt x.s z=r at *;go_enter Tryz.func125, Tryz.ntmps125;go_wp2_with fail;have sB:=hB.size;refine world_cut (fun X=>Below w.heap.size w X) BW ?_;clear hB sB;rintro V1 hB;refine (M _).mono ?_;rintro e W2 ⟨rfl,h1⟩;have stp:=St0 hB h1;clear hB h1;have hB:=stp;clear stp;go_wp2;go_ret;exact ⟨rfl,hB⟩
theorem compareInt_lt {x y:Int}:compareInt x y<0 ↔ x<y:=by unfold compareInt;split <;> (try split) <;> omega
theorem compareInt_eq {x y:Int}:compareInt x y=0 ↔ x=y:=by unfold compareInt;split <;> (try split) <;> omega
theorem abinary {l:List Trm} (hs:SrcOk l) (id:Nat) (p:Option Addr) (n c:Nat) (hn:l.length=n) (hn1:n≤1000000) (w:World) (hp:TAt 55 w p l):Calls Tryz.prog 124 #[.slice p n c,.int .i64 (id:Int),.func (.func 125) #[] #[]] w (fun e w'=>∃ (i:Nat) (b:Bool),e = .returned (.tuple #[.int .i64 (i:Int),.bool b])∧(b=true→i<n∧(trD l i).s=id)∧(b=false→look l id=none)∧Below w.heap.size w w'):=by
 have hB:Below w.heap.size w w:=Below.refl _ _;have HP:=Lib.hid hp;clear hp;have hnI:(n:Int)≤1000000:=by omega
 have MF:=fun (t:Trm) W=>afind1 t.raw (id:Int) W
 unfold IntIs uV Trm.raw at MF;have HS:=Lib.hid hs;clear hs;go_enter Tryz.func124, Tryz.ntmps124;go_wp2_with fail;go_loopw [9,10] (fun v9 v10 wr=>∃ i j:Nat,v9 = .int .i64 (i:Int)∧v10 = .int .i64 (j:Int)∧i≤j∧j≤n∧(∀ t,t<i→(trD l t).s<id)∧(∀ t,j≤t→t<n→id≤(trD l t).s)∧Below w.heap.size w wr) (fun v9 v10 _=>(RowKit.intOf v10 - RowKit.intOf v9).toNat)
 case atStart=>exact ⟨0,n,rfl,rfl,by omega,by omega,fun t ht=>absurd ht (by omega),fun t h1 h2=>absurd h1 (by omega),hB⟩
 case round =>
  clear hB;obtain ⟨i,j,rfl,rfl,hij,hjn,hlo,hhi,hB⟩:=hrel;rcases Nat.lt_or_ge i j with hlt | hge
  ·obtain ⟨h,hh⟩:∃ h:Nat,(i+j) / 2=h:=⟨_,rfl⟩
   have hij:(i:Int)<(j:Int):=by omega
   have hE:((i:Int)+(j:Int)) / 2=(h:Int):=by omega
   have hi1:i≤h:=by omega
   have hj1:h<j:=by omega
   have hhl:h<l.length:=by omega
   have hhn:(h:Int)<(n:Int):=by omega
   obtain ⟨x,hx⟩:∃ x,x=trD l h:=⟨_,rfl⟩
   have HX:=Lib.hid hx;have MF:=MF x;have HN:=Lib.hid hn;clear hh hn;obtain ⟨g,gcur,rfl,rg,g0,g1,g2⟩:=TAt.at (UAt.below HP.out hB) hhl;rw [← hx] at g0 g1 g2;clear hx;have Fg:∀ X,Row X g (.cells gcur 55)→(g<X.heap.size∧X.cell? ⟨g,h * 3,none⟩=some (.int .i64 (x.s:Int))∧X.cell? ⟨g,h * 3+1,none⟩=some (.string (S x.c.num))∧X.cell? ⟨g,h * 3+2,none⟩=some (.string (S (x.c.den:Int)))):=fun X h=>⟨h.1,Row.cell_at h _ g0,Row.cell_at h _ g1,Row.cell_at h _ g2⟩
   have sg:=Fg _ rg;obtain ⟨r,hr⟩:∃ r,r=compareInt (x.s:Int) (id:Int):=⟨_,rfl⟩
   rw [← hr] at MF;have HR:=Lib.hid hr;clear hr hhl;rcases Int.lt_or_le r 0 with hr0 | hr0
   ·go_wp2_with fail;refine (MF _).mono ?_;rintro e W1 ⟨rfl,h1⟩;have stp:=St1 hB h1 rg;clear hB h1 rg sg;obtain ⟨hB,rg⟩:=stp;have sg:=Fg _ rg;go_wp2;go_roundw
    case rel=>exact ⟨h+1,j,by go_num,rfl,by omega,hjn,fun t ht=>(by have hlx:(x.s:Int)<(id:Int):=compareInt_lt.1 (HR.out ▸ hr0);rcases Nat.lt_succ_iff_lt_or_eq.1 ht with h4 | h4;(· have:=HS.out.lt h4 (by have:=HN.out;omega);rw [← HX.out] at this;omega);(· rw [h4,← HX.out];omega)),hhi,BW⟩
    case measure=>simp [RowKit.intOf];omega
   ·have hr1:¬ r<0:=by omega
    clear hr0;go_wp2_with fail;refine (MF _).mono ?_;rintro e W1 ⟨rfl,h1⟩;have stp:=St1 hB h1 rg;clear hB h1 rg sg;obtain ⟨hB,rg⟩:=stp;have sg:=Fg _ rg;go_wp2;go_roundw
    case rel=>exact ⟨i,h,rfl,rfl,by omega,by omega,hlo,fun t h3 h4=>(by have hlx:¬ (x.s:Int)<(id:Int):=fun e=>(by have h9:r<0:=HR.out ▸ compareInt_lt.2 e;omega);rcases Nat.eq_or_lt_of_le h3 with h5 | h5;(· rw [← h5,← HX.out];omega);(· have:=HS.out.lt h5 (by have:=HN.out;omega);rw [← HX.out] at this;omega)),BW⟩
    case measure=>simp [RowKit.intOf];omega
  ·obtain rfl:j=i:=by omega
   clear hge hij;rcases Nat.lt_or_ge j n with hjl | hjl
   ·have hjl2:j<l.length:=by omega
    have hjI:(j:Int)<(n:Int):=by omega
    obtain ⟨x,hx⟩:∃ x,x=trD l j:=⟨_,rfl⟩
    have HX:=Lib.hid hx;have MF:=MF x;have HN:=Lib.hid hn;clear hn;obtain ⟨g,gcur,rfl,rg,g0,g1,g2⟩:=TAt.at (UAt.below HP.out hB) hjl2;rw [← hx] at g0 g1 g2;clear hx;have Fg:∀ X,Row X g (.cells gcur 55)→(g<X.heap.size∧X.cell? ⟨g,j * 3,none⟩=some (.int .i64 (x.s:Int))∧X.cell? ⟨g,j * 3+1,none⟩=some (.string (S x.c.num))∧X.cell? ⟨g,j * 3+2,none⟩=some (.string (S (x.c.den:Int)))):=fun X h=>⟨h.1,Row.cell_at h _ g0,Row.cell_at h _ g1,Row.cell_at h _ g2⟩
    have sg:=Fg _ rg;obtain ⟨r,hr⟩:∃ r,r=compareInt (x.s:Int) (id:Int):=⟨_,rfl⟩
    rw [← hr] at MF;have HR:=Lib.hid hr;clear hr hjl2;obtain ⟨b,hb⟩:∃ b,b=decide (r=0):=⟨_,rfl⟩
    have HB:=Lib.hid hb;by_cases hr0:r=0
    ·have HR0:=Lib.hid hr0;subst hr0;go_wp2_with fail;refine (MF _).mono ?_;rintro e W1 ⟨rfl,h1⟩;have stp:=St1 hB h1 rg;clear hB h1 rg sg;obtain ⟨hB,rg⟩:=stp;have sg:=Fg _ rg;go_wp2;go_ret2;exact ⟨j,true,rfl,fun _=>(by have:=compareInt_eq.1 (HR.out.symm:compareInt (x.s:Int) (id:Int)=0);rw [← HX.out];exact ⟨hjl,by omega⟩),(fun h=>by cases h),hB⟩
    ·have hr2:(r == 0)=false:=beq_eq_false_iff_ne.2 hr0;go_wp2_with fail;refine (MF _).mono ?_;rintro e W1 ⟨rfl,h1⟩;have stp:=St1 hB h1 rg;clear hB h1 rg sg;obtain ⟨hB,rg⟩:=stp;have sg:=Fg _ rg;go_wp2;go_ret2;exact ⟨j,false,rfl,(fun h=>by cases h),fun _=>look_none.2 (fun t ht=>(by obtain ⟨k,hk,rfl⟩:=List.getElem_of_mem ht;rw [← trD_get hk];intro e;rcases Nat.lt_trichotomy k j with h4 | h4 | h4;(· have:=hlo k h4;omega);(· subst h4;rw [← HX.out] at e;exact hr0 (by rw [HR.out];exact compareInt_eq.2 (by omega)));(· have:=HS.out.lt h4 hk;rw [← HX.out] at this;have h6:=hhi j (Nat.le_refl _) (by have:=HN.out;omega);rw [← HX.out] at h6;omega))),hB⟩
   ·obtain rfl:n=j:=by omega
    go_wp2;go_ret2;exact ⟨n,false,rfl,(fun h=>by cases h),fun _=>look_none.2 (fun t ht=>(by obtain ⟨k,hk,rfl⟩:=List.getElem_of_mem ht;rw [← trD_get hk];intro e;have:=hlo k (by omega);omega)),hB⟩
def FindIs (l:List Trm) (id:Nat) (w:World) (e:Ending) (w':World):Prop:=e = .returned (.tuple #[Q (cf l id),.bool (look l id).isSome])∧Below w.heap.size w w'
theorem afind {l:List Trm} (hs:SrcOk l) (id:Nat) (p:Option Addr) (n c:Nat) (hn:l.length=n) (hn1:n≤1000000) (w:World) (hp:TAt 55 w p l) (he:Env w):Calls Tryz.prog 73 #[.slice p n c,.int .i64 (id:Int)] w (FindIs l id w):=by
 have hB:Below w.heap.size w w:=Below.refl _ _;have HP:=Lib.hid hp;have MB:=fun W (hp:TAt 55 W p l)=>abinary hs id p n c hn hn1 W hp
 have M0:=fun W (H:Env W)=>awhole (n:=0) (by decide) whole0 W H
 have HS:=Lib.hid hs;have HN:=Lib.hid hn;unfold QIs at M0;unfold FindIs;obtain ⟨v,hv⟩:∃ v,cf l id=v:=⟨_,rfl⟩
 obtain ⟨s,hs2⟩:∃ s,(look l id).isSome=s:=⟨_,rfl⟩
 rw [hv,hs2];unfold Q at *;have HV:=Lib.hid hv;have HS2:=Lib.hid hs2;clear hp hs hn hv hs2;go_enter Tryz.func73, Tryz.ntmps73;go_wp2_with fail;have d0_o:w.heap.size≤w.heap.size:=by have:=hB.size;omega
 have sB:=hB.size;refine world_cut (fun X=>Below w.heap.size w X∧Row X w.heap.size oN0) ⟨BW,RW8⟩ ?_;clear hB sB;rintro V1 ⟨hB,ro⟩;have so:=RFz2 ro;refine (MB _ (UAt.below HP.out hB)).mono ?_;rintro e W2 ⟨i,b,rfl,h2,h3,h1⟩;have stp:=St1 hB h1 ro;clear hB h1 ro so;obtain ⟨hB,ro⟩:=stp;have so:=RFz2 ro;have H2:=Lib.hid h2;have H3:=Lib.hid h3;clear h2 h3
 cases b
 ·have hl:=H3.out rfl;have e1:cf l id=0:=by unfold cf;rw [hl];rfl
  have e2:(look l id).isSome=false:=by rw [hl];rfl
  obtain ⟨z,hz⟩:∃ z:Rat,z=0:=⟨_,rfl⟩
  rw [← hz] at M0;have HZV:=Lib.hid ((hz.trans e1.symm).trans HV.out);have HST:=Lib.hid (HS2.out.symm.trans e2);clear H2 H3 hl e1 e2 HV HS2 hz;go_wp2_with fail;refine (M0 _ (he.below hB)).mono ?_;rintro e W3 ⟨rfl,h1⟩;have stp:=St1 hB h1 ro;clear hB h1 ro so;obtain ⟨hB,ro⟩:=stp;have so:=RFz2 ro;go_wp2_with fail;have sB:=hB.size;refine post_cut (fun X=>Below w.heap.size w X∧Row X w.heap.size (oN z)) ⟨BW,RW8⟩ ?_;clear ro so hB sB;rintro V4 ⟨hB,ro⟩;have so:=RFz2 ro;refine bodyPost_ret (v := .tuple #[.agg #[.string (S z.num),.string (S (z.den:Int))],.bool false]) ?res rfl ⟨by rw [HZV.out,HST.out],hB⟩
  case res=>simp [results,Tryz.results73, go_sem,so]
 ·obtain ⟨hin,hid⟩:=H2.out rfl;have hil:i<l.length:=by have:=HN.out;omega
  have hl:=look_at HS.out hil;rw [hid] at hl;have e1:cf l id=(trD l i).c:=by unfold cf;rw [hl];rfl
  have e2:(look l id).isSome=true:=by rw [hl];rfl
  have HXV0:=e1.symm.trans HV.out;have HST:=Lib.hid (HS2.out.symm.trans e2);clear HV HS2;obtain ⟨x,hx⟩:∃ x,x=trD l i:=⟨_,rfl⟩
  rw [← hx] at HXV0;have HXV:=Lib.hid HXV0;clear HXV0;have hiI:(i:Int)<(n:Int):=by omega
  clear H2 H3 hl e1 e2 hid M0;obtain ⟨g,gcur,rfl,rg,g0,g1,g2⟩:=TAt.at (UAt.below HP.out hB) hil;rw [← hx] at g0 g1 g2;clear hx;have Fg:∀ X,Row X g (.cells gcur 55)→(g<X.heap.size∧X.cell? ⟨g,i * 3,none⟩=some (.int .i64 (x.s:Int))∧X.cell? ⟨g,i * 3+1,none⟩=some (.string (S x.c.num))∧X.cell? ⟨g,i * 3+2,none⟩=some (.string (S (x.c.den:Int)))):=fun X h=>⟨h.1,Row.cell_at h _ g0,Row.cell_at h _ g1,Row.cell_at h _ g2⟩
  have sg:=Fg _ rg;go_wp2_with fail;clear Fg;have sB:=hB.size;refine post_cut (fun X=>Below w.heap.size w X∧Row X w.heap.size (oN x.c)) ⟨BW,RW8⟩ ?_;clear ro so rg sg hB sB;rintro V3 ⟨hB,ro⟩;have so:=RFz2 ro;refine bodyPost_ret (v := .tuple #[.agg #[.string (S x.c.num),.string (S (x.c.den:Int))],.bool true]) ?res rfl ⟨by rw [HXV.out,HST.out],hB⟩
  case res=>simp [results,Tryz.results73, go_sem,so]
end Go.Proofs.YtdikaoahgleffaaGreatDoor
namespace Go.Proofs.YtdikaoahgleffaaGreatDoor
open Go Go.Lib
/-! Forms that integers determine. -/
def mTo (x:Nat→Int):Nat→List Trm
 | 0=>[]
 | k+1=>if pk (x k) 17 - 8≠0∧(mTo x k).length<5 then mTo x k ++ [⟨k+1,Rat.divInt (pk (x k) 17 - 8) 4⟩] else mTo x k
def mForm (c r:Int) (x:Nat→Int):Frm:=⟨Rat.divInt (pk c 161 - 80) 4,mTo x 6,Rat.divInt (pk r 9) 4⟩
def vTo (x:Nat→Int) (k:Nat):List Trm:=(List.range k).map fun i=>⟨i+1,Rat.divInt (pk (x i) 17 - 8) 8⟩
theorem mTo_len (x:Nat→Int):∀ k,(mTo x k).length≤5
 | 0=>by simp [mTo]
 | k+1=>by
  have h:=mTo_len x k;unfold mTo;split
  ·rw [List.length_append];simp only [List.length_cons,List.length_nil];omega
  ·exact h
theorem divInt_ne {n d:Int} (hd:0<d) (h:n≠0):Rat.divInt n d≠0:=by
 intro e;have:=divInt_mul (n:=n) hd;rw [e] at this;have h2:((n:Int):Rat)=0:=by grind
 exact h (by exact_mod_cast h2)
theorem mTo_mem (x:Nat→Int):∀ k,∀ p,p ∈ mTo x k→1≤p.s∧p.s≤k∧p.c≠0∧Gr 4 8 p.c
 | 0=>fun p hp=>by simp [mTo] at hp
 | k+1=>fun p hp=>by
  have h:=mTo_mem x k;unfold mTo at hp;split at hp
  ·rename_i hc;rcases List.mem_append.1 hp with hp | hp
   ·have:=h p hp;exact ⟨this.1,by omega,this.2.2⟩
   ·simp only [List.mem_cons,List.not_mem_nil,or_false] at hp;subst hp;have h1:=pk_nonneg (x k) (n:=17) (by decide);have h2:=pk_lt (x k) (n:=17) (by decide);exact ⟨by show 1≤k+1;omega,Nat.le_refl _,divInt_ne (d:=4) (n:=pk (x k) 17 - 8) (by decide) hc.1,Gr.ofInt (d:=4) (by decide) (by omega)⟩
  ·have:=h p hp;exact ⟨this.1,by omega,this.2.2⟩
theorem mTo_asc (x:Nat→Int):∀ k,(mTo x k).Pairwise fun a b=>a.s<b.s
 | 0=>by simp [mTo]
 | k+1=>by
  have h:=mTo_asc x k;unfold mTo;split
  ·refine List.pairwise_append.2 ⟨h,by simp,fun a ha b hb => ?_⟩;simp only [List.mem_cons,List.not_mem_nil,or_false] at hb;subst hb;have:=mTo_mem x k a ha;show a.s<k+1;omega
  ·exact h
theorem mForm_ok (c r:Int) (x:Nat→Int):(mForm c r x).Ok where
 few:=by have:=mTo_len x 6;show (mTo x 6).length≤64;omega
 src:=⟨fun p hp=>by have:=mTo_mem x 6 p hp;exact ⟨this.1,by omega⟩,mTo_asc x 6⟩
 nz:=fun p hp=>(mTo_mem x 6 p hp).2.2.1
 rest:=divInt_nonneg' (by decide) (pk_nonneg r (by decide))
theorem mForm_gr (c r:Int) (x:Nat→Int):FGr 4 80 (mForm c r x) where
 c:=by
  have h1:=pk_nonneg c (n:=161) (by decide);have h2:=pk_lt c (n:=161) (by decide);exact Gr.ofInt (d:=4) (by decide) (by omega)
 t:=fun p hp=>((mTo_mem x 6 p hp).2.2.2).mono (by decide)
 r:=by
  have h1:=pk_nonneg r (n:=9) (by decide);have h2:=pk_lt r (n:=9) (by decide);exact Gr.ofInt (d:=4) (by decide) (by omega)
theorem mForm_len (c r:Int) (x:Nat→Int):(mForm c r x).t.length≤5:=mTo_len x 6
theorem rng_asc {f:Nat→Trm} (hf:∀ i,(f i).s=i+1) (k:Nat):((List.range k).map f).Pairwise fun a b=>a.s<b.s:=by
 induction k with
 | zero=>simp
 | succ k ih =>
  rw [List.range_succ,List.map_append];refine List.pairwise_append.2 ⟨ih,by simp,fun a ha b hb => ?_⟩;obtain ⟨i,hi,rfl⟩:=List.mem_map.1 ha;simp only [List.map_cons,List.map_nil,List.mem_cons,List.not_mem_nil,or_false] at hb;subst hb;have:=List.mem_range.1 hi;rw [hf,hf];omega
theorem rng_src {f:Nat→Trm} (hf:∀ i,(f i).s=i+1) {k:Nat} (hk:k≤1000000):SrcOk ((List.range k).map f):=by
 refine ⟨fun p hp => ?_,rng_asc hf k⟩;obtain ⟨i,hi,rfl⟩:=List.mem_map.1 hp;have:=List.mem_range.1 hi;rw [hf];omega
theorem vTo_src (x:Nat→Int) {k:Nat} (hk:k≤1000000):SrcOk (vTo x k):=rng_src (fun _=>rfl) hk
theorem vTo_gr (x:Nat→Int) (k:Nat):∀ p,p ∈ vTo x k→Gr 8 8 p.c:=fun p hp=>by
 obtain ⟨i,hi,rfl⟩:=List.mem_map.1 hp;have h1:=pk_nonneg (x i) (n:=17) (by decide);have h2:=pk_lt (x i) (n:=17) (by decide);exact Gr.ofInt (d:=8) (by decide) (by omega)
theorem divInt_bounds {n d:Int} (hd:0<d) (h1 : -d≤n) (h2:n≤d) : -1≤Rat.divInt n d∧Rat.divInt n d≤1:=by
 constructor
 ·refine (le_divInt hd).2 ?_;have:((-d:Int):Rat)≤(n:Rat):=by exact_mod_cast h1
  push_cast at this;grind
 ·refine (divInt_le hd).2 ?_;have:((n:Int):Rat)≤(d:Rat):=by exact_mod_cast h2
  grind
theorem vTo_between (x:Nat→Int) (k:Nat):∀ p,p ∈ vTo x k → -1≤p.c∧p.c≤1:=fun p hp=>by
 obtain ⟨i,hi,rfl⟩:=List.mem_map.1 hp;have h1:=pk_nonneg (x i) (n:=17) (by decide);have h2:=pk_lt (x i) (n:=17) (by decide);exact divInt_bounds (by decide) (by omega) (by omega)
theorem vTo_len (x:Nat→Int) (k:Nat):(vTo x k).length=k:=by simp [vTo]
theorem vTo_succ (x:Nat→Int) (k:Nat):vTo x (k+1)=vTo x k ++ [⟨k+1,Rat.divInt (pk (x k) 17 - 8) 8⟩]:=by unfold vTo;rw [List.range_succ,List.map_append];rfl
/-! Cancels. -/
def constF (q:Rat):Frm:=⟨q,[],0⟩
theorem lin_src {p q:Rat} {a b:List Trm} (ha:SrcOk a) (hb:SrcOk b):SrcOk (lin p q a b):=(lin_ok ha hb).ok.srcOk (Nat.le_refl _)
theorem lin_nz {p q:Rat} {a b:List Trm} (ha:SrcOk a) (hb:SrcOk b):∀ t,t ∈ lin p q a b→t.c≠0:=(lin_ok ha hb).ok.nz
theorem lin_cf {p q:Rat} {a b:List Trm} (ha:SrcOk a) (hb:SrcOk b) (id:Nat):cf (lin p q a b) id=p * cf a id+q * cf b id:=(lin_ok ha hb).cf id
theorem absQ_one:absQ 1=1:=by unfold absQ;rw [if_neg (by decide)]
theorem absQ_minus:absQ (-1)=1:=by unfold absQ;rw [if_pos (by decide)];grind
theorem absQ_zero:absQ 0=0:=by unfold absQ;rw [if_neg (by decide)]
theorem sub_self_form {a:Frm} (h:a.Ok):combF 1 (-1) a a=⟨0,[],a.r+a.r⟩:=by
 unfold combF;have ht:lin 1 (-1) a.t a.t=[]:=terms_ext (lin_src h.src h.src) SrcOk.nil (lin_nz h.src h.src) (by simp) fun id=>by rw [lin_cf h.src h.src,cf_nil];grind
 rw [ht,absQ_one,absQ_minus];congr 1 <;> grind
theorem comb_ok {p q:Rat} {a b:Frm} (ha:a.Ok) (hb:b.Ok) (h:(lin p q a.t b.t).length≤64):(combF p q a b).Ok where
 few:=h
 src:=lin_src ha.src hb.src
 nz:=lin_nz ha.src hb.src
 rest:=by
  have h1:=Rat.mul_nonneg (absQ_nonneg p) ha.rest;have h2:=Rat.mul_nonneg (absQ_nonneg q) hb.rest;show 0≤absQ p * a.r+absQ q * b.r;grind
theorem const_ok (q:Rat):(constF q).Ok:=⟨by simp [constF],SrcOk.nil,by simp [constF],Rat.le_refl⟩
/-! Products. -/
def mulF (a b:Frm):Frm:=⟨a.c * b.c,lin b.c a.c a.t b.t,absQ b.c * a.r+absQ a.c * b.r+rad a * rad b⟩
theorem mulF_ok {a b:Frm} (ha:a.Ok) (hb:b.Ok) (h:(lin b.c a.c a.t b.t).length≤64):(mulF a b).Ok where
 few:=h
 src:=lin_src ha.src hb.src
 nz:=lin_nz ha.src hb.src
 rest:=by
  have h1:=Rat.mul_nonneg (absQ_nonneg b.c) ha.rest;have h2:=Rat.mul_nonneg (absQ_nonneg a.c) hb.rest;have h3:=Rat.mul_nonneg (rad_nonneg ha.rest) (rad_nonneg hb.rest);show 0≤absQ b.c * a.r+absQ a.c * b.r+rad a * rad b;grind
/-! Ranges. -/
def Unit1 (vs:List Trm):Prop:=∀ p,p ∈ vs → -1≤p.c∧p.c≤1
theorem look_mem {l:List Trm} {id:Nat} {v:Rat} (h:look l id=some v):∃ p,p ∈ l∧p.s=id∧p.c=v:=by
 unfold look at h;obtain ⟨p,hp,rfl⟩:=Option.map_eq_some_iff.1 h;refine ⟨p,List.mem_of_find?_eq_some hp,?_,rfl⟩;have:=List.find?_some hp;simpa using this
theorem look_unit {vs:List Trm} (h:Unit1 vs) {id:Nat} {v:Rat} (hl:look vs id=some v) : -1≤v∧v≤1:=by
 obtain ⟨p,hp,_,rfl⟩:=look_mem hl;exact h p hp
theorem abs_mul_unit {c v:Rat} (h1 : -1≤v) (h2:v≤1):c * v≤absQ c ∧ -(absQ c)≤c * v:=by
 unfold absQ;split
 ·rename_i h;have e1:=Rat.mul_nonneg (show 0 ≤ -c by grind) (show 0≤1+v by grind);have e2:=Rat.mul_nonneg (show 0 ≤ -c by grind) (show 0≤1 - v by grind);constructor <;> grind
 ·rename_i h;have e1:=Rat.mul_nonneg (show 0≤c by grind) (show 0≤1+v by grind);have e2:=Rat.mul_nonneg (show 0≤c by grind) (show 0≤1 - v by grind);constructor <;> grind
theorem at_ok {vs:List Trm} {f:Frm} (h:0≤f.r):(atI f vs).Ok:=by
 have:=rad_nonneg (f:=⟨0,others vs f.t,f.r⟩) h;unfold atI Iv.Ok;show _ - _≤_+_;grind
def sgn (c:Rat):Int:=if c<0 then -1 else 1
def ends (l:List Trm) (up:Int):List Trm:=l.map fun t=>⟨t.s,Rat.divInt (up * sgn t.c) 1⟩
/-! Covariance. -/
def covTo (a b ss:List Trm):Nat→Rat
 | 0=>0
 | k+1=>covTo a b ss k+cf a (trD ss k).s * cf b (trD ss k).s * (trD ss k).c
end Go.Proofs.YtdikaoahgleffaaGreatDoor
namespace Go.Proofs.YtdikaoahgleffaaGreatDoor
open Go Go.RowKit Go.Lib Go.Shelf
attribute [local go_sem] normalQ
structure ValsOk (vs:List Trm):Prop where
 few:vs.length≤64
 src:SrcOk vs
 unit:Unit1 vs
 dig:∀ p,p ∈ vs→QDig 200 p.c
structure AtF (f:Frm) (vs:List Trm):Prop where
 mul:∀ k,k<f.t.length→∀ v,look vs (trD f.t k).s=some v→MF (trD f.t k).c v
 add:∀ k,k<f.t.length→∀ v,look vs (trD f.t k).s=some v→AF (midTo vs f.c f.t k) ((trD f.t k).c * v)
 rad:RadF ⟨0,others vs f.t,f.r⟩
 lo:SF (midTo vs f.c f.t f.t.length) (Proofs.YtdikaoahgleffaaGreatDoor.rad ⟨0,others vs f.t,f.r⟩)
 hi:AF (midTo vs f.c f.t f.t.length) (Proofs.YtdikaoahgleffaaGreatDoor.rad ⟨0,others vs f.t,f.r⟩)
theorem mid_some {vs l:List Trm} {c v:Rat} {k:Nat} (h:look vs (trD l k).s=some v):midTo vs c l (k+1)=midTo vs c l k+(trD l k).c * v:=by
 show (match look vs (trD l k).s with | some v=>_ | none=>_)=_;rw [h]
theorem mid_none {vs l:List Trm} {c:Rat} {k:Nat} (h:look vs (trD l k).s=none):midTo vs c l (k+1)=midTo vs c l k:=by
 show (match look vs (trD l k).s with | some v=>_ | none=>_)=_;rw [h]
theorem others_some {vs l:List Trm} {v:Rat} {k:Nat} (hk:k<l.length) (h:look vs (trD l k).s=some v):others vs (l.take (k+1))=others vs (l.take k):=by
 rw [others_take hk,h,if_neg (by simp)]
theorem others_none {vs l:List Trm} {k:Nat} (hk:k<l.length) (h:look vs (trD l k).s=none):others vs (l.take (k+1))=others vs (l.take k) ++ [trD l k]:=by
 rw [others_take hk,h,if_pos rfl]
theorem others_len (vs l:List Trm):(others vs l).length≤l.length:=by unfold others;exact List.length_filter_le _ _
theorem bet_unit {vs:List Trm} (h:Unit1 vs):∀ i,i<vs.length→betB (-1) 1 (some (trD vs i).c)=true:=fun i hi=>by
 have:=h _ (trD_mem hi);show (decide (-1≤(trD vs i).c) && decide ((trD vs i).c≤1))=true;rw [decide_eq_true this.1,decide_eq_true this.2];rfl
theorem le_below {n:Nat} {W W':World} (h:n≤W.heap.size) (hB:Below W.heap.size W W'):n≤W'.heap.size:=Nat.le_trans h hB.size
theorem aat1 {f:Frm} {vs:List Trm} (h:AtF f vs) (hv:ValsOk vs) (hlen:f.t.length≤100000) (pf:Option Addr) (cq:Nat) (pv:Option Addr) (cv:Nat) (bv bf:Nat) (w:World) (rv:Row w bv (.cells #[.slice pv vs.length cv] 28)) (rf:Row w bf (oF f.c f.r pf f.t.length cq)) (hpf:TAt 55 w pf f.t) (hpv:TAt 55 w pv vs) (he:Env w):Calls Tryz.prog 67 #[.pointer (some ⟨bv,0,none⟩),.pointer (some ⟨bf,0,none⟩)] w (avIs (fun a=>atI f vs=a) w):=by
 have hB:Below w.heap.size w w:=Below.refl _ _;have HPf:=Lib.hid hpf;have HPv:=Lib.hid hpv;have FN:=fnum;obtain ⟨n,hn⟩:=form_len f;obtain ⟨m,hm⟩:∃ m,vs.length=m:=⟨_,rfl⟩
 have hm64:m≤64:=hm ▸ hv.few;have hmI:(m:Int)≤64:=by omega
 have hmI2:¬ (64:Int)<(m:Int):=by omega
 have MA:=fun W (h1:TAt 55 W pv vs)=>aare pv m cv (l:=raws vs) (by rw [raws_length];exact hm) (by omega) W h1
 rw [decide_eq_true (srcU_of hv.src)] at MA;have MW:=fun W (h1:TAt 55 W pv vs) (H:Env W)=>tcontains (l:=raws vs) (fun _=>false) 68 (enters_of Tryz.func68 (by kernel_rfl) rfl) pv m cv (by rw [raws_length];exact hm) (by omega) W h1 (fun i hi X hX=>by have hi2:i<vs.length:=(by omega);have h9:=avalue (uD (raws vs) i) (o:=some (trD vs i).c) (by rw [raws_at hi2];exact RK.of (hv.dig _ (trD_mem hi2))) X (H.below hX);rw [bet_unit hv.unit i hi2] at h9;exact h9)
 rw [decide_eq_false (by simp)] at MW;have MF_:=fun id W (h1:TAt 55 W pv vs) (H:Env W)=>afind hv.src id pv m cv hm (by omega) W h1 H
 have MM:=fun k (hk:k<f.t.length) v (hl:look vs (trD f.t k).s=some v) W (H:Env W)=>nmul (h.mul k hk v hl) W H
 have MS:=fun k (hk:k<f.t.length) v (hl:look vs (trD f.t k).s=some v) W (H:Env W)=>nadd (h.add k hk v hl) W H
 have hol:=others_len vs;have MR:=fun po co W (h1:TAt 55 W po (others vs f.t)) (H:Env W)=>aradius h.rad (Nat.le_trans (hol f.t) (by omega)) ⟨#[]⟩ ⟨#[]⟩ po co W h1 H
 have MI:=fun W (H:Env W)=>aaround h.lo h.hi W H
 have HT:=Lib.hid (rfl:f.t.take f.t.length=f.t.take f.t.length);unfold BoolOk at MA MW;unfold FindIs at MF_;unfold QIs at MM MS MR;unfold IvIs I at MI;unfold avIs I atI;dsimp only at MR;generalize rad ⟨0,others vs f.t,f.r⟩=rd at *;generalize hlo:midTo vs f.c f.t f.t.length - rd=xl at *;generalize hhi:midTo vs f.c f.t f.t.length+rd=xh at *;unfold Q at *;rw [hn] at MM MS MI hlen rf;rw [hm] at rv;have hnI:(n:Int)≤100000:=by omega
 have HN:=Lib.hid hn;clear hlo hhi hpf hpv h hv hn hm HT;have E0:Hid (midTo vs f.c f.t 0=f.c):=Lib.hid rfl;have sv:=RF1 rv;have sf:=RF5 rf;go_enter Tryz.func67, Tryz.ntmps67;go_wp2_with fail;have dv_o:bv<w.heap.size:=by omega
 have df_o:bf<w.heap.size:=by omega
 have d0_o:w.heap.size≤w.heap.size:=by have:=hB.size;omega
 have sB:=hB.size;refine world_cut (fun X=>Below w.heap.size w X∧Row X bv (.cells #[.slice pv m cv] 28)∧Row X bf (oF f.c f.r pf n cq)∧Row X w.heap.size oI0) ⟨BW,RW8,RW8,RW8⟩ ?_;clear rv sv rf sf hB sB;rintro V1 ⟨hB,rv,rf,ro⟩;have sv:=RF1 rv;have sf:=RF5 rf;have so:=RFz4 ro;refine (MA _ (UAt.below HPv.out hB)).mono ?_;rintro e W2 ⟨rfl,h1⟩;have stp:=St3 hB h1 rv rf ro;clear hB h1 rv sv rf sf ro so;obtain ⟨hB,rv,rf,ro⟩:=stp;have sv:=RF1 rv;have sf:=RF5 rf;have so:=RFz4 ro;go_wp2_with fail;refine (MW _ (UAt.below HPv.out hB) (he.below hB)).mono ?_;rintro e W3 ⟨rfl,h1⟩;have stp:=St3 hB h1 rv rf ro;clear hB h1 rv sv rf sf ro so;obtain ⟨hB,rv,rf,ro⟩:=stp;have sv:=RF1 rv;have sf:=RF5 rf;have so:=RFz4 ro;go_wp2_with fail;refine (acheck_true _).mono ?_;rintro e W4 ⟨rfl,h1⟩;have stp:=St3 hB h1 rv rf ro;clear hB h1 rv sv rf sf ro so;obtain ⟨hB,rv,rf,ro⟩:=stp;have sv:=RF1 rv;have sf:=RF5 rf;have so:=RFz4 ro;go_upto_region 3 with fail;have l_v:=rv.1;have l_f:=rf.1;have l_o:=ro.1;have l_W:=hB.size;refine Code.wp_mono (Q:=fun ex ac wx=>ex = .normal∧∃ (vmi vot:Nat) (u10 u11 u12 u13 u14 u15 u16 u17 u18 u19 u20 u21 u22 u23 u24 u25 u26 u27 u28 u29:Value),ac={ tmps:=#[.pointer (some ⟨bv,0,none⟩),.pointer (some ⟨bf,0,none⟩),.pointer (some ⟨w.heap.size,0,none⟩),.func (.func 68) #[] #[],.pointer (some ⟨vmi,0,none⟩),.pointer (some ⟨vot,0,none⟩),undef,undef,undef,undef,u10,u11,u12,u13,u14,u15,u16,u17,u18,u19,u20,u21,u22,u23,u24,u25,u26,u27,u28,u29,undef,undef,undef,undef,undef,undef,undef,undef,undef,undef,undef,undef,undef,undef,undef,undef,undef,undef,undef,undef,undef,undef,undef,undef,undef,undef,undef,undef,undef,undef,undef,undef,undef],defers:=[] }∧Below w.heap.size w wx∧Row wx bv (.cells #[.slice pv m cv] 28)∧Row wx bf (oF f.c f.r pf n cq)∧Row wx w.heap.size oI0∧Row wx vmi (oN f.c)∧W4.heap.size≤vmi∧Row wx vot (oG f.r none 0 0)∧W4.heap.size≤vot∧vmi≠vot) ?rest ?first
 case first =>
  have sB:=hB.size;have KK:∀ X,Row X bf (oF f.c f.r pf n cq)→(X.cell? ⟨bf,0,none⟩=some (.string (S f.c.num))∧X.cell? ⟨bf,1,none⟩=some (.string (S (f.c.den:Int)))∧X.cell? ⟨bf,3,none⟩=some (.string (S f.r.num))∧X.cell? ⟨bf,4,none⟩=some (.string (S (f.r.den:Int)))):=fun X hf=>⟨Row.cell_at hf 0 rfl,Row.cell_at hf 1 rfl,Row.cell_at hf 3 rfl,Row.cell_at hf 4 rfl⟩
  clear sv sf so;go_region_held3 (fun X=>X.cell? ⟨bf,0,none⟩=some (.string (S f.c.num))∧X.cell? ⟨bf,1,none⟩=some (.string (S (f.c.den:Int)))∧X.cell? ⟨bf,3,none⟩=some (.string (S f.r.num))∧X.cell? ⟨bf,4,none⟩=some (.string (S (f.r.den:Int)))) (first | exact KK _ RW8) (first
      | fail)
  all_goals (refine ⟨rfl,_,_,_,_,_,_,_,_,_,_,_,_,_,_,_,_,_,_,_,_,_,_,rfl,?_,?_,?_,?_,?_,?_,?_,?_,?_⟩)
  all_goals first | omega | ((repeat (first | (with_reducible assumption) | (with_reducible exact Below.refl _ _) | (with_reducible refine Below.drew ?_) | (with_reducible refine below_drewN ?_ _) | (with_reducible refine Below.alloc ?_ (by first | omega | (simp;done) | (simp;omega)) _) | (with_reducible refine Below.setCell ?_ (by first | omega | (simp;done) | (simp;omega)) _)));done) | ((repeat (first | (with_reducible assumption) | (with_reducible exact row_new' (by first | omega | (simp;done) | (simp;omega))) | (with_reducible refine Row.drew ?_) | (with_reducible refine Row.drewN ?_ _) | (with_reducible refine Row.alloc ?_ _) | (with_reducible apply Row.set5) | (with_reducible apply Row.set2) | (with_reducible refine Row.set_other ?_ _ (by first | omega | (simp;done) | (simp;omega)))));done) | (simp;done) | (simp;omega)
 case rest =>
  clear hB rv rf ro sv sf so;rintro ex ac wx ⟨rfl,vmi,vot,u10,u11,u12,u13,u14,u15,u16,u17,u18,u19,u20,u21,u22,u23,u24,u25,u26,u27,u28,u29,rfl,hB,rv,rf,ro,rmi,hvmi,rot,hvot,nmi_ot⟩;have dv_mi:bv<vmi:=by omega
  have dv_ot:bv<vot:=by omega
  have df_mi:bf<vmi:=by omega
  have df_ot:bf<vot:=by omega
  have do_mi:w.heap.size<vmi:=by omega
  have do_ot:w.heap.size<vot:=by omega
  have d0_mi:w.heap.size≤vmi:=by omega
  have d0_ot:w.heap.size≤vot:=by omega
  have sv:=RF1 rv;have sf:=RF5 rf;have so:=RFz4 ro;have smi:=RFz2 rmi;have sot:=RFz5 rot;go_wp2_with fail;obtain ⟨n0,hn0e⟩:∃ n0,n0=wx.heap.size:=⟨_,rfl⟩
  have hbo:vot<n0:=by have:=rot.1;omega
  have hbm:vmi<n0:=by have:=rmi.1;omega
  have hbf:bf<n0:=by have:=rf.1;omega
  have hbv:bv<n0:=by have:=rv.1;omega
  have hb0:w.heap.size<n0:=by have:=ro.1;omega
  have hn0:n0≤wx.heap.size:=by omega
  clear hn0e;rw [← E0.out] at rmi;clear sv sf so smi sot;go_loopw [33] (fun v33 wr=>∃ (i:Nat) (po:Option Addr) (co:Nat),v33 = .int .i64 (i:Int)∧i≤n∧OT wr n0 po co (others vs (f.t.take i))∧n0≤wr.heap.size∧Below w.heap.size w wr∧Row wr bv (.cells #[.slice pv m cv] 28)∧Row wr bf (oF f.c f.r pf n cq)∧Row wr w.heap.size oI0∧Row wr vmi (oN (midTo vs f.c f.t i))∧Row wr vot (.cells #[.string ⟨#[]⟩,.string ⟨#[]⟩,.slice po (others vs (f.t.take i)).length co,.string (S f.r.num),.string (S (f.r.den:Int))] 30)) (fun v33 _=>(n - RowKit.intOf v33).toNat)
  case atStart=>exact ⟨0,none,0,rfl,by omega,OT.nil _ _,hn0,hB,rv,rf,ro,rmi,rot⟩
  case round =>
   clear hB rv rf ro rmi rot hn0;obtain ⟨i,po,co,rfl,hin,hown,hn0,hB,rv,rf,ro,rmi,rot⟩:=hrel;have sv:=RF1 rv;have sf:=RF5 rf;have so:=RFz4 ro;have smi:=RFz2 rmi;have sot:=RFz5 rot;rcases Nat.lt_or_ge i n with hlt | hge
   ·have hlt':i<f.t.length:=by rw [HN.out];exact hlt
    have hlI:(i:Int)<(n:Int):=by omega
    have MM:=MM i hlt;have MS:=MS i hlt;have e1:=@others_some vs f.t;have hoi:(others vs (f.t.take i)).length≤100000:=by have:=hol (f.t.take i);rw [List.length_take] at this;omega
    obtain ⟨t,ht⟩:∃ t,t=trD f.t i:=⟨_,rfl⟩
    have HTI:=Lib.hid ht;rw [← ht] at MM MS;have MF_:=MF_ t.s;have hlt2:=hlt';clear e1;obtain ⟨g,gcur,rfl,rg,g0,g1,g2⟩:=TAt.at (UAt.below HPf.out hB) hlt2;rw [← ht] at g0 g1 g2;clear ht;have Fg:∀ X,Row X g (.cells gcur 55)→(g<X.heap.size∧X.cell? ⟨g,i * 3,none⟩=some (.int .i64 (t.s:Int))∧X.cell? ⟨g,i * 3+1,none⟩=some (.string (S t.c.num))∧X.cell? ⟨g,i * 3+2,none⟩=some (.string (S (t.c.den:Int)))):=fun X h=>⟨h.1,Row.cell_at h _ g0,Row.cell_at h _ g1,Row.cell_at h _ g2⟩
    have sg:=Fg _ rg;cases hk:look vs t.s with
    | none =>
     have e2:(look vs t.s).isSome=false:=by rw [hk];rfl
     rw [e2] at MF_;have hk2:look vs (trD f.t i).s=none:=by rw [← HTI.out];exact hk
     have E1:=Lib.hid (mid_none (c:=f.c) hk2);have E2:Hid (others vs (f.t.take (i+1))=(others vs (f.t.take i)) ++ [t]):=Lib.hid (by rw [HTI.out];exact others_none hlt' hk2);clear hk hk2 e2 hlt2 MM MS;generalize cf vs t.s=v at *;generalize hoo:others vs (f.t.take i)=o at *;have HOO:=Lib.hid hoo;clear hoo;go_wp2_with fail;have do_t:w.heap.size<wr.heap.size:=by omega
     have dmi_t:vmi<wr.heap.size:=by omega
     have dot_t:vot<wr.heap.size:=by omega
     have sB:=hB.size;refine world_cut (fun X=>Below w.heap.size w X∧Row X bv (.cells #[.slice pv m cv] 28)∧Row X bf (oF f.c f.r (some ⟨g,0,none⟩) n cq)∧Row X w.heap.size oI0∧Row X vmi (oN (midTo vs f.c f.t i))∧Row X vot (oG f.r po o.length co)∧Row X g (.cells gcur 55)∧Row X wr.heap.size (oT (t.s:Int) t.c)∧OT X n0 po co o∧n0≤X.heap.size) ⟨BW,RW8,RW8,RW8,RW8,RW8,RW8,RW8,OW,(by first | omega | (simp;omega))⟩ ?_;clear rv sv rf sf ro so rmi smi rot sot rg sg hB sB hown hn0;rintro V6 ⟨hB,rv,rf,ro,rmi,rot,rg,rt,hown,hn0⟩;have sv:=RF1 rv;have sf:=RF5 rf;have so:=RFz4 ro;have smi:=RFz2 rmi;have sot:=RFz5 rot;have sg:=Fg _ rg;have st:=RF3 rt;refine (MF_ _ (UAt.below HPv.out hB) (he.below hB)).mono ?_;rintro e W7 ⟨rfl,h1⟩;replace hown:=OT.later hown h1;replace hn0:=le_below hn0 h1;have stp:=St7 hB h1 rv rf ro rmi rot rg rt;clear hB h1 rv sv rf sf ro so rmi smi rot sot rg sg rt st;obtain ⟨hB,rv,rf,ro,rmi,rot,rg,rt⟩:=stp;have sv:=RF1 rv;have sf:=RF5 rf;have so:=RFz4 ro;have smi:=RFz2 rmi;have sot:=RFz5 rot;have sg:=Fg _ rg;have st:=RF3 rt;go_upto_region 10 with fail;have do_w:w.heap.size<W7.heap.size:=by omega
     have dmi_w:vmi<W7.heap.size:=by omega
     have dot_w:vot<W7.heap.size:=by omega
     have sB:=hB.size;refine wp_cut (fun X=>Below w.heap.size w X∧Row X bv (.cells #[.slice pv m cv] 28)∧Row X bf (oF f.c f.r (some ⟨g,0,none⟩) n cq)∧Row X w.heap.size oI0∧Row X vmi (oN (midTo vs f.c f.t i))∧Row X vot (oG f.r po o.length co)∧Row X g (.cells gcur 55)∧Row X wr.heap.size (oT (t.s:Int) t.c)∧Row X W7.heap.size (oN v)∧OT X n0 po co o∧n0≤X.heap.size) ⟨BW,RW8,RW8,RW8,RW8,RW8,RW8,RW8,RW8,OW,(by first | omega | (simp;omega))⟩ ?_;clear rv sv rf sf ro so rmi smi rot sot rg sg rt st hB sB hown hn0;rintro V8 ⟨hB,rv,rf,ro,rmi,rot,rg,rt,rw,hown,hn0⟩;have sv:=RF1 rv;have sf:=RF5 rf;have so:=RFz4 ro;have smi:=RFz2 rmi;have sot:=RFz5 rot;have sg:=Fg _ rg;have st:=RF3 rt;have sw:=RF2 rw;go_wp2_with (at_builtin;refine wpl_append_term rfl (.tmp 53) (.tmp 55) rfl n0 po co o t rfl (World.ownsRow.alloc hown _) _ rfl (row_new _ _) hoi (by simp;omega) ?_;intro p' c' W7 hown' hg';replace rv:=own_row_ne (World.ownsRow.alloc hown _) hg' (Row.alloc rv _) (by omega);replace rf:=own_row_ne (World.ownsRow.alloc hown _) hg' (Row.alloc rf _) (by omega);replace ro:=own_row_ne (World.ownsRow.alloc hown _) hg' (Row.alloc ro _) (by omega);replace rmi:=own_row_ne (World.ownsRow.alloc hown _) hg' (Row.alloc rmi _) (by omega);replace rot:=own_row_ne (World.ownsRow.alloc hown _) hg' (Row.alloc rot _) (by omega);replace hB:=Below.grown (hB.alloc hB.size _) hg' (by simp;have:=hB.size;omega) (fun k hk=>by have:=(World.ownsRow.lt hown k hk).1;omega);have hn7:n0≤W7.heap.size:=Nat.le_trans (by simp;omega) hg'.size;clear hg' hn0 hown;have sot:=RFz5 rot)
     have hown:=hown';clear hown';go_wp2;go_roundw
     case rel=>exact ⟨i+1,p',c',by go_num,by omega,by rw [E2.out];exact own_other hown rot form_ne 2 _,(by simp;omega),BW,RW8,RW8,RW8,by rw [E1.out];exact RW8,by rw [E2.out];simp only [List.length_append,List.length_cons,List.length_nil,Nat.zero_add];exact RW8⟩
     case measure=>simp [RowKit.intOf];omega
    | some v =>
     have MM:=MM v hk;have MS:=MS v hk;have e2:cf vs t.s=v:=by unfold cf;rw [hk];rfl
     rw [hk,e2] at MF_;have hk2:look vs (trD f.t i).s=some v:=by rw [← HTI.out];exact hk
     have E1:Hid (midTo vs f.c f.t (i+1)=midTo vs f.c f.t i+t.c * v):=Lib.hid (by rw [HTI.out];exact mid_some hk2);have E2:=Lib.hid (others_some hlt' hk2);clear hk hk2 e2 hlt2;simp only [Option.isSome_some] at MF_;rw [← E1.out] at MS;generalize t.c * v=y at *;go_wp2_with fail;have do_t:w.heap.size<wr.heap.size:=by omega
     have dmi_t:vmi<wr.heap.size:=by omega
     have dot_t:vot<wr.heap.size:=by omega
     have sB:=hB.size;refine world_cut (fun X=>Below w.heap.size w X∧Row X bv (.cells #[.slice pv m cv] 28)∧Row X bf (oF f.c f.r (some ⟨g,0,none⟩) n cq)∧Row X w.heap.size oI0∧Row X vmi (oN (midTo vs f.c f.t i))∧Row X vot (.cells #[.string ⟨#[]⟩,.string ⟨#[]⟩,.slice po (others vs (f.t.take i)).length co,.string (S f.r.num),.string (S (f.r.den:Int))] 30)∧Row X g (.cells gcur 55)∧Row X wr.heap.size (oT (t.s:Int) t.c)∧OT X n0 po co (others vs (f.t.take i))∧n0≤X.heap.size) ⟨BW,RW8,RW8,RW8,RW8,RW8,RW8,RW8,OW,(by first | omega | (simp;omega))⟩ ?_;clear rv sv rf sf ro so rmi smi rot sot rg sg hB sB hown hn0;rintro V6 ⟨hB,rv,rf,ro,rmi,rot,rg,rt,hown,hn0⟩;have sv:=RF1 rv;have sf:=RF5 rf;have so:=RFz4 ro;have smi:=RFz2 rmi;have sot:=RFz5 rot;have sg:=Fg _ rg;have st:=RF3 rt;refine (MF_ _ (UAt.below HPv.out hB) (he.below hB)).mono ?_;rintro e W7 ⟨rfl,h1⟩;replace hown:=OT.later hown h1;replace hn0:=le_below hn0 h1;have stp:=St7 hB h1 rv rf ro rmi rot rg rt;clear hB h1 rv sv rf sf ro so rmi smi rot sot rg sg rt st;obtain ⟨hB,rv,rf,ro,rmi,rot,rg,rt⟩:=stp;have sv:=RF1 rv;have sf:=RF5 rf;have so:=RFz4 ro;have smi:=RFz2 rmi;have sot:=RFz5 rot;have sg:=Fg _ rg;have st:=RF3 rt;go_wp2_with fail;have do_w:w.heap.size<W7.heap.size:=by omega
     have dmi_w:vmi<W7.heap.size:=by omega
     have dot_w:vot<W7.heap.size:=by omega
     have sB:=hB.size;refine wp_cut (fun X=>Below w.heap.size w X∧Row X bv (.cells #[.slice pv m cv] 28)∧Row X bf (oF f.c f.r (some ⟨g,0,none⟩) n cq)∧Row X w.heap.size oI0∧Row X vmi (oN (midTo vs f.c f.t i))∧Row X vot (.cells #[.string ⟨#[]⟩,.string ⟨#[]⟩,.slice po (others vs (f.t.take i)).length co,.string (S f.r.num),.string (S (f.r.den:Int))] 30)∧Row X g (.cells gcur 55)∧Row X wr.heap.size (oT (t.s:Int) t.c)∧Row X W7.heap.size (oN v)∧OT X n0 po co (others vs (f.t.take i))∧n0≤X.heap.size) ⟨BW,RW8,RW8,RW8,RW8,RW8,RW8,RW8,RW8,OW,(by first | omega | (simp;omega))⟩ ?_;clear rv sv rf sf ro so rmi smi rot sot rg sg rt st hB sB hown hn0;rintro V8 ⟨hB,rv,rf,ro,rmi,rot,rg,rt,rw,hown,hn0⟩;have sv:=RF1 rv;have sf:=RF5 rf;have so:=RFz4 ro;have smi:=RFz2 rmi;have sot:=RFz5 rot;have sg:=Fg _ rg;have st:=RF3 rt;have sw:=RF2 rw;refine wp_region_items 7 [.val (.agg #[.string (S (midTo vs f.c f.t i).num),.string (S ((midTo vs f.c f.t i).den:Int))]),.val (.pointer (some ⟨wr.heap.size,1,none⟩)),.val (.agg #[.string (S t.c.num),.string (S (t.c.den:Int))]),.val (.agg #[.string (S t.c.num),.string (S (t.c.den:Int))]),.val (.agg #[.string (S v.num),.string (S (v.den:Int))]),.val (.agg #[.string (S y.num),.string (S (y.den:Int))]),.val (.agg #[.string (S (midTo vs f.c f.t (i+1)).num),.string (S ((midTo vs f.c f.t (i+1)).den:Int))])] (by kernel_rfl) (by kernel_rfl) trivial (allItems.cons (qi1 fun X h=>RFz2 (Row.below rmi h)) (allItems.cons qi0 (allItems.cons (qi1 fun X h=>RF3 (Row.below rt h)) (allItems.cons qi0 (allItems.cons (qi1 fun X h=>RF2 (Row.below rw h)) (allItems.cons (qi2 fun X h=>MM X (he.below (hB.trans (h.mono hB.size)))) (allItems.cons (qi2 fun X h=>MS X (he.below (hB.trans (h.mono hB.size)))) trivial))))))) ?_
     rintro W h1;replace hown:=OT.later hown h1;replace hn0:=le_below hn0 h1;have stp:=St8 hB h1 rv rf ro rmi rot rg rt rw;clear hB h1 rv sv rf sf ro so rmi smi rot sot rg sg rt st rw sw;obtain ⟨hB,rv,rf,ro,rmi,rot,rg,rt,rw⟩:=stp;have sv:=RF1 rv;have sf:=RF5 rf;have so:=RFz4 ro;have smi:=RFz2 rmi;have sot:=RFz5 rot;have sg:=Fg _ rg;have st:=RF3 rt;have sw:=RF2 rw;simp only [setItems,List.setIfInBounds_toArray,List.set_cons_succ,List.set_cons_zero,List.take_succ_cons,List.take_zero,List.drop_succ_cons,List.drop_zero];go_wp2;go_roundw
     case rel=>exact ⟨i+1,po,co,by go_num,by omega,by rw [E2.out];exact OW,(by first | omega | (simp;omega)),BW,RW8,RW8,RW8,RW8,by rw [E2.out];exact RW8⟩
     case measure=>simp [RowKit.intOf];omega
   ·obtain rfl:n=i:=by omega
    have hall:f.t.take n=f.t:=by rw [← HN.out];exact List.take_length
    rw [hall] at hown rot;clear hall MM MS MF_ sv sf so smi sot;have sv:=RF1 rv;have sf:=RF5 rf;have so:=RFz4 ro;have smi:=RFz2 rmi;have sot:=RFz5 rot;have MR:=MR po co;go_wp2_with fail;clear rv sv rf sf;refine wp_region_items 4 [.val (.agg #[.string (S (midTo vs f.c f.t n).num),.string (S ((midTo vs f.c f.t n).den:Int))]),.val (.agg #[.string ⟨#[]⟩,.string ⟨#[]⟩,.slice po (others vs f.t).length co,.string (S f.r.num),.string (S (f.r.den:Int))]),.val (.agg #[.string (S rd.num),.string (S (rd.den:Int))]),.val (.agg #[.string (S xl.num),.string (S (xl.den:Int)),.string (S xh.num),.string (S (xh.den:Int))])] (by kernel_rfl) (by kernel_rfl) trivial (allItems.cons (qi1 fun X h=>RFz2 (Row.below rmi h)) (allItems.cons (qi1 fun X h=>RFz5 (Row.below rot h)) (allItems.cons (qi2 fun X h=>MR X (UAt.below (OT.tat hown) h) (he.below (hB.trans (h.mono hB.size)))) (allItems.cons (qi2 fun X h=>MI X (he.below (hB.trans (h.mono hB.size)))) trivial)))) ?_;rintro W h1;replace hown:=OT.later hown h1;have stp:=St3 hB h1 ro rmi rot;clear hB h1 ro so rmi smi rot sot;obtain ⟨hB,ro,rmi,rot⟩:=stp;have so:=RFz4 ro;have smi:=RFz2 rmi;have sot:=RFz5 rot;simp only [setItems,List.setIfInBounds_toArray,List.set_cons_succ,List.set_cons_zero,List.take_succ_cons,List.take_zero,List.drop_succ_cons,List.drop_zero];go_wp2_with fail;have sB:=hB.size;refine post_cut (fun X=>Below w.heap.size w X∧Row X w.heap.size (oI xl xh)) ⟨BW,RW8⟩ ?_;clear ro so rmi smi rot sot hB sB;rintro V6 ⟨hB,ro⟩;have so:=RFz4 ro;refine bodyPost_ret (v := .agg #[.string (S xl.num),.string (S (xl.den:Int)),.string (S xh.num),.string (S (xh.den:Int))]) ?res rfl ⟨⟨xl,xh⟩,rfl,rfl,hB⟩
    case res=>simp [results,Tryz.results67, go_sem,so]
end Go.Proofs.YtdikaoahgleffaaGreatDoor
