/-
 Regions that draw their order and end in operations that each wait, if need be through others, for all ahead of them. Package affine: radius, around, that no form of a slice is invalid, Range; at valid forms, where nothing is too large.
-/
import Derived.Test.YtdikaoahgleffaaGreatDoorWTail3
set_option linter.unusedSimpArgs false
set_option linter.unusedVariables false
set_option maxRecDepth 100000
set_option maxHeartbeats 16000000
namespace Go.Proofs.YtdikaoahgleffaaGreatDoor
open Go Go.RowKit Go.Lib Go.Shelf
def tailFitT (ops:Array Oper) (n:Nat):Bool :=
 (List.range' n (ops.size - n)).all fun i=>match ops[i]? with | some o=>(List.range i).all fun j=>waitsT ops ops.size o j | none=>false
theorem tailFitT_wait {ops:Array Oper} {n:Nat} (h:tailFitT ops n=true) {i:Nat} {o:Oper} (hi:n≤i) (ho:ops[i]? = some o) {j:Nat} (hj:j<i):waitsT ops ops.size o j=true:=by
 unfold tailFitT at h;rw [List.all_eq_true] at h;have hlt:=(Array.getElem?_eq_some_iff.1 ho).1;have h1:=h i (by rw [List.mem_range'_1];omega);rw [ho] at h1;simp only [List.all_eq_true] at h1;exact h1 j (List.mem_range.2 hj)
theorem wpAny_seqT {P:Program} {ops:Array Oper} {Q:Exit→Act→World→Prop} {n N:Nat} (hfit:quietFit ops N=true) (htail:tailFitT ops n=true) :
  ∀ (m k fuel:Nat) (listed:Array Bool) (a:Act) (W:World),n≤k→k+m=ops.size→listed.size=ops.size→Closed ops listed→(∀ i,i<k→listed.getD i false=true)→(∀ i,k≤i→listed.getD i false=false)→m≤fuel →
   wpOps P ops Q (List.range' k m) a W→wpAny P .any ops Q fuel listed a W
 | 0,k,fuel,listed,a,W,hn,hk,hs,hc,h1,h2,hf,h=>by
  have hr:Region.ready .any ops listed=[]:=by
   rw [List.eq_nil_iff_forall_not_mem];intro i hi;have h3:=ready_listed hi hs;obtain ⟨_,o,ho,_⟩:=mem_ready.1 hi;have:=h1 i (by have:=(Array.getElem?_eq_some_iff.1 ho).1;omega);rw [h3] at this;cases this
  cases fuel with
  | zero=>exact ⟨hr,h⟩
  | succ f=>exact ⟨fun _=>h,fun i hi=>(by rw [hr] at hi;cases hi)⟩
 | m+1,k,fuel,listed,a,W,hn,hk,hs,hc,h1,h2,hf,h=>by
  obtain ⟨f,rfl⟩:∃ f,fuel=f+1:=⟨fuel - 1,by omega⟩
  have ho:ops[k]? = some (ops[k]'(by omega)):=by simp [show k<ops.size by omega]
  have hm:k ∈ Region.ready .any ops listed:=by
   refine mem_ready.2 ⟨?_,_,ho,fun e he hb=>h1 _ (quietFit.edge hfit ho he hb)⟩;have:=h2 k (Nat.le_refl _);rw [Array.getD_eq_getD_getElem?] at this ⊢;have hlt:k<listed.size:=by omega
   rw [Array.getElem?_eq_getElem hlt] at this ⊢;exact this
  refine ⟨fun hr=>(by rw [hr] at hm;cases hm),fun i hi => ?_⟩;obtain ⟨_,o,ho',hdep⟩:=mem_ready.1 hi;have hik:i=k:=by
   rcases Nat.lt_trichotomy i k with hlt | he | hgt
   ·have:=h1 i hlt;rw [ready_listed hi hs] at this;cases this
   ·exact he
   ·have:=waitsT_listed hc ops.size o k hdep (tailFitT_wait htail (by omega) ho' hgt);rw [h2 k (Nat.le_refl _)] at this;cases this
  subst hik;rw [List.range'_succ,wpOps_cons] at h;refine wpOp_mono (fun a' W' h'=>wpAny_seqT hfit htail m (i+1) f _ a' W' (by omega) (by omega) (by rw [Array.size_setIfInBounds];exact hs) (closed_set hc ho' hdep) (fun j hj => ?_) (fun j hj => ?_) (by omega) h') h
  ·by_cases hji:j=i
   ·subst hji;exact listed_self (by omega)
   ·exact listed_keep (h1 j (by omega))
  ·have:=h2 j (by omega);rw [Array.getD_eq_getD_getElem?] at this ⊢;rw [Array.getElem?_setIfInBounds_ne (by omega)];exact this
theorem wp_region_items3 {P:Program} {ops:Array Oper} {Q:Exit→Act→World→Prop} {id:Nat} {tmps:Array Value} {ds:List Deferred} {w:World} (n:Nat) (items:List QItem) (L:List Nat) (hm:P.follows .mixedOrders=true)
  (htail:(tailFitT ops n && quietFit ops tmps.size && decide (n≤ops.size) && decide ((ops.toList.take n).length=items.length))=true) (hL:newDsts (ops.toList.take n)=L) (hmono:itemsMono items) (hall:allItems P ops (ops.toList.take n) items tmps w (ops.toList.take n) items)
  (hdone:∀ W,Below w.heap.size w W→setItems W (fun T=>Apart L T→wpList P ops Q (ops.toList.drop n) ⟨T,ds⟩ W) (ops.toList.take n) items tmps):(Code.region id ops true).wp P Q ⟨tmps,ds⟩ w:=by
 simp only [Bool.and_eq_true,decide_eq_true_eq] at htail;obtain ⟨⟨⟨h1,hfit⟩,hn⟩,hlen⟩:=htail;have e:∀ a W,wpOps P ops Q (List.range' n (ops.size - n)) a W=wpList P ops Q (ops.toList.drop n) a W:=fun a W=>by
  have h:=wpOps_eq_wpList (P:=P) (ops:=ops) (Q:=Q) (ops.toList.drop n) n (fun j=>by rw [List.getElem?_drop];simp);rw [List.length_drop,Array.length_toList] at h;rw [h]
 have hallq:allQuiet P ops (ops.toList.take n) (itemSp items) tmps w 0 (ops.toList.take n):=allItems.quiet _ _ 0 hall (fun i=>by simp);have hin:∀ (listed:Array Bool),(∀ j,n≤j→listed.getD j false=false)→∀ j (p:Oper),ops[j]? = some p→listed.getD j false=true→p ∈ ops.toList.take n:=by
  intro listed h2 j p hp hl;have hjn:j<n:=by
   rcases Nat.lt_or_ge j n with h | h
   ·exact h
   ·rw [h2 j h] at hl;cases hl
  refine List.mem_of_getElem? (i:=j) ?_;rw [List.getElem?_take,if_pos hjn];simpa using hp
 refine wp_region_any hm (wpAny_inv2 (J:=fun listed a W=>QuietAt ops (itemSp items) tmps ds w listed a W∧ApartAt ops listed a W∧Closed ops listed) (C:=[]) hn (fun i o hi ho j hj _=>tailFitT_wait h1 hi ho hj) (fun listed a W h=>h.1.lsize) (fun listed a W h=>h.2.2) ?_ ?_ hfit ops.size _ _ _ ⟨⟨Below.drew (Below.refl _ _),rfl,rfl,by simp,?_,fun _ _=>rfl⟩,⟨?_,?_⟩,?_⟩ (fun i _ => ?_) ?_)
 ·intro listed a W i o hJ h2 hi ho hni hdep;refine wpOp_mono (fun a' W' h=>⟨h.1,h.2,closed_set hJ.2.2 ho hdep⟩) (quietAt_step2 hmono.get hfit ?_ (hin listed h2) ho hJ.1 hJ.2.1 hni hdep);have:=allQuiet.get (ops.toList.take n) 0 hallq i o (by rw [List.getElem?_take,if_pos hi];simpa using ho)
  rwa [Nat.zero_add] at this
 ·intro fuel listed a W hJ h2 h3 hc;have h3':∀ j,j<n→listed.getD j false=true:=fun j hj=>h3 j hj (by simp)
  refine wpAny_seqT hfit h1 (ops.size - n) n fuel listed a W (Nat.le_refl _) (by omega) hJ.1.lsize hJ.2.2 h3' h2 ?_ ?_
  ·refine Nat.le_trans ?_ hc;have e2:listed.toList=listed.toList.take n ++ List.replicate (ops.size - n) false:=by
    apply List.ext_getElem?;intro i;have hsz:=hJ.1.lsize;rcases Nat.lt_or_ge i n with hi | hi
    ·rw [List.getElem?_append_left (by simp;omega),List.getElem?_take,if_pos hi]
    ·rw [List.getElem?_append_right (by simp;omega)];have hl:(listed.toList.take n).length=n:=by simp;omega
     rw [hl,List.getElem?_replicate];have:=h2 i hi;rw [Array.getD_eq_getD_getElem?] at this;split
     ·rename_i hlt;have hlt':i<listed.size:=by omega
      rw [Array.getElem?_eq_getElem hlt'] at this;simp at this;simp [hlt',this]
     ·rename_i hge;simp;omega
   rw [e2,List.count_append,List.count_replicate];simp
  ·rw [e];have hq:=setItems_done (items:=items) (K:=fun T W=>Apart L T→wpList P ops Q (ops.toList.drop n) ⟨T,ds⟩ W) (ops.toList.take n) items 0 tmps hlen (fun i=>by simp) (hdone W hJ.1.below);have h4:=quietDone_use a.tmps (ops.toList.take n) 0 tmps hq hJ.1.size.symm (fun i o t ho ht=>by
    rw [Nat.zero_add];rw [List.getElem?_take] at ho;split at ho
    ·rename_i hi;exact hJ.1.done i o t (by simpa using ho) ht (h3' i hi)
    ·cases ho) (fun t ht=>hJ.1.same t (fun j p hp hl=>foreign_mem ht (hin listed h2 j p hp hl)))
   have:a=⟨a.tmps,ds⟩:=by rw [← hJ.1.defers]
   rw [this];refine h4 ?_;rw [← hL];refine apart_of fun i j o p t s ho hp hno hnp ht hs hne => ?_
   rw [List.getElem?_take] at ho hp;split at ho
   ·rename_i hi;split at hp
    ·rename_i hj;exact hJ.2.1.apart i j o p t s (by simpa using ho) (by simpa using hp) hno hnp ht hs hne (h3' i hi) (h3' j hj)
    ·cases hp
   ·cases ho
 ·intro i o t _ _ h;rw [Array.getD_eq_getD_getElem?] at h;by_cases hi:i<ops.size <;> simp [hi] at h
 ·intro i o t _ _ _ h;rw [Array.getD_eq_getD_getElem?] at h;by_cases hi:i<ops.size <;> simp [hi] at h
 ·intro i j o p t s _ _ _ _ _ _ _ h;rw [Array.getD_eq_getD_getElem?] at h;by_cases hi:i<ops.size <;> simp [hi] at h
 ·intro i o _ h;rw [Array.getD_eq_getD_getElem?] at h;by_cases hi:i<ops.size <;> simp [hi] at h
 ·rw [Array.getD_eq_getD_getElem?];by_cases hi:i<ops.size <;> simp [hi]
 ·simp
end Go.Proofs.YtdikaoahgleffaaGreatDoor
namespace Go.Proofs.YtdikaoahgleffaaGreatDoor
open Go Go.RowKit Go.Lib Go.Shelf
attribute [local go_sem] normalQ
theorem form_len (f:Frm):∃ n,f.t.length=n:=⟨_,rfl⟩
structure RangeF (f:Frm):Prop where
 rad:RadF f
 lo:SF f.c (Proofs.YtdikaoahgleffaaGreatDoor.rad f)
 hi:AF f.c (Proofs.YtdikaoahgleffaaGreatDoor.rad f)
theorem RangeF.of {d m n:Nat} {f:Frm} (h:FGr d m f) (hn:f.t.length+1≤n) (hd:0<d) (h1:d<10 ^ 99) (h2:n * m<10 ^ 99):RangeF f :=
 ⟨RadF.of h hn hd h1 h2,SF.of (h.c.dig hd h1 (Nat.lt_of_le_of_lt (Nat.le_mul_of_pos_left m (by omega)) h2)) ((rad_gr h hn).dig hd h1 h2) (by decide),AF.of (h.c.dig hd h1 (Nat.lt_of_le_of_lt (Nat.le_mul_of_pos_left m (by omega)) h2)) ((rad_gr h hn).dig hd h1 h2) (by decide)⟩
theorem aradius {f:Frm} (h:RadF f) (hlen:f.t.length≤1000000) (z1 z2:ByteArray) (p:Option Addr) (c:Nat) (w:World) (hp:TAt 55 w p f.t) (he:Env w):Calls Tryz.prog 48 #[.agg #[.string z1,.string z2,.slice p f.t.length c,.string (S f.r.num),.string (S (f.r.den:Int))]] w (QIs (rad f) w):=by
 have hB:Below w.heap.size w w:=Below.refl _ _;have HP:=Lib.hid hp;have M0:=fun W (H:Env W)=>awhole (n:=0) (by decide) whole0 W H
 have ML:=fun W (H:Env W)=>nadd h.last W H
 have hfew:=h.dig.t;have MA:∀ i,i<f.t.length→∀ W,Env W→Calls Tryz.prog 118 #[Q (trD f.t i).c] W (QIs (absQ (trD f.t i).c) W):=fun i hi W H=>nabs (h.dig.t _ (trD_mem hi)) W H
 have MS:∀ i,i<f.t.length→∀ W,Env W→Calls Tryz.prog 47 #[Q (radTo f.t i),Q (absQ (trD f.t i).c)] W (QIs (radTo f.t (i+1)) W):=fun i hi W H=>nadd (h.step i hi) W H
 have e0:(0:Rat)=radTo f.t 0:=rfl;rw [e0] at M0;have er:rad f=radTo f.t f.t.length+f.r:=rfl;rw [er];generalize radTo f.t f.t.length+f.r=res at *;unfold QIs at *;unfold Q at *;obtain ⟨n,hn⟩:=form_len f;rw [hn] at hlen MA MS ML ⊢;have hnI:(n:Int)≤1000000:=by omega
 have HN:=Lib.hid hn;clear hp h hfew e0 er hn;go_enter Tryz.func48, Tryz.ntmps48;go_wp2_with fail;have d0_o:w.heap.size≤w.heap.size+1:=by have:=hB.size;omega
 have sB:=hB.size;refine world_cut (fun X=>Below w.heap.size w X∧Row X w.heap.size (.cells #[.string z1,.string z2,.slice p n c,.string (S f.r.num),.string (S (f.r.den:Int))] 30)∧Row X (w.heap.size+1) oN0) ⟨BW,RW8,RW8⟩ ?_;clear hB sB;rintro V1 ⟨hB,rf,ro⟩;have sf:=RF5 rf;have so:=RFz2 ro;refine (M0 _ (he.below hB)).mono ?_;rintro e W2 ⟨rfl,h1⟩;have stp:=St2 hB h1 rf ro;clear hB h1 rf sf ro so;obtain ⟨hB,rf,ro⟩:=stp;have sf:=RF5 rf;have so:=RFz2 ro;go_wp2_with fail;have df_s:w.heap.size<W2.heap.size:=by omega
 have do_s:w.heap.size+1<W2.heap.size:=by omega
 have d0_s:w.heap.size≤W2.heap.size:=by have:=hB.size;omega
 have sB:=hB.size;refine wp_cut (kp2 hB rf ro fun X=>Row X W2.heap.size (oN (radTo f.t 0))) ⟨BW,RW8,RW8,RW8⟩ ?_;unfold kp2;clear rf sf ro so hB sB;rintro V3 ⟨hB,rf,ro,rs⟩;have sf:=RF5 rf;have so:=RFz2 ro;have ss:=RFz2 rs
 skip
 clear sf so ss;go_loopw [10] (fun v10 wr=>∃ i:Nat,v10 = .int .i64 (i:Int)∧i≤n∧Below w.heap.size w wr∧Row wr w.heap.size (.cells #[.string z1,.string z2,.slice p n c,.string (S f.r.num),.string (S (f.r.den:Int))] 30)∧Row wr (w.heap.size+1) oN0∧Row wr W2.heap.size (oN (radTo f.t i))) (fun v10 _=>(n - RowKit.intOf v10).toNat)
 case atStart=>exact ⟨0,rfl,by omega,hB,rf,ro,rs⟩
 case round =>
  clear hB rf ro rs;obtain ⟨i,rfl,hin,hB,rf,ro,rs⟩:=hrel;have sf:=RF5 rf;have so:=RFz2 ro;have ss:=RFz2 rs;rcases Nat.lt_or_ge i n with hlt | hge
  ·have hlt':i<f.t.length:=by rw [HN.out];exact hlt
   have hlI:(i:Int)<(n:Int):=by omega
   have MA:=MA i hlt;have MS:=MS i hlt;obtain ⟨t,ht⟩:∃ t,t=trD f.t i:=⟨_,rfl⟩
   rw [← ht] at MA MS;obtain ⟨g,gcur,rfl,rg,g0,g1,g2⟩:=TAt.at (UAt.below HP.out hB) hlt';rw [← ht] at g0 g1 g2;clear ht;have Fg:∀ X,Row X g (.cells gcur 55)→(g<X.heap.size∧X.cell? ⟨g,i * 3,none⟩=some (.int .i64 (t.s:Int))∧X.cell? ⟨g,i * 3+1,none⟩=some (.string (S t.c.num))∧X.cell? ⟨g,i * 3+2,none⟩=some (.string (S (t.c.den:Int)))):=fun X h=>⟨h.1,Row.cell_at h _ g0,Row.cell_at h _ g1,Row.cell_at h _ g2⟩
   have sg:=Fg _ rg;generalize absQ t.c=y at *;clear hlt';go_wp2_with fail;have do_t:w.heap.size+1<wr.heap.size:=by omega
   have ds_t:W2.heap.size<wr.heap.size:=by omega
   have sB:=hB.size;refine wp_cut (fun X=>Below w.heap.size w X∧Row X w.heap.size (.cells #[.string z1,.string z2,.slice (some ⟨g,0,none⟩) n c,.string (S f.r.num),.string (S (f.r.den:Int))] 30)∧Row X (w.heap.size+1) oN0∧Row X W2.heap.size (oN (radTo f.t i))∧Row X g (.cells gcur 55)∧Row X wr.heap.size (oT (t.s:Int) t.c)) ⟨BW,RW8,RW8,RW8,RW8,RW8⟩ ?_;clear rf sf ro so rs ss rg sg hB sB;rintro V4 ⟨hB,rf,ro,rs,rg,rt⟩;have sf:=RF5 rf;have so:=RFz2 ro;have ss:=RFz2 rs;have sg:=Fg _ rg;have st:=RF3 rt;refine wp_region_items 6 [.val (.agg #[.string (S (radTo f.t i).num),.string (S ((radTo f.t i).den:Int))]),.val (.pointer (some ⟨wr.heap.size,1,none⟩)),.val (.agg #[.string (S t.c.num),.string (S (t.c.den:Int))]),.val (.agg #[.string (S t.c.num),.string (S (t.c.den:Int))]),.val (.agg #[.string (S y.num),.string (S (y.den:Int))]),.val (.agg #[.string (S (radTo f.t (i+1)).num),.string (S ((radTo f.t (i+1)).den:Int))])] (by kernel_rfl) (by kernel_rfl) trivial (allItems.cons (qi1 fun X h=>RFz2 (Row.below rs h)) (allItems.cons qi0 (allItems.cons (qi1 fun X h=>RF3 (Row.below rt h)) (allItems.cons qi0 (allItems.cons (qi2 fun X h=>MA X (he.below (hB.trans (h.mono hB.size)))) (allItems.cons (qi2 fun X h=>MS X (he.below (hB.trans (h.mono hB.size)))) trivial)))))) ?_;rintro W h1;have stp:=St5 hB h1 rf ro rs rg rt;clear hB h1 rf sf ro so rs ss rg sg rt st;obtain ⟨hB,rf,ro,rs,rg,rt⟩:=stp;have sf:=RF5 rf;have so:=RFz2 ro;have ss:=RFz2 rs;have sg:=Fg _ rg;have st:=RF3 rt
   simp only [setItems,List.setIfInBounds_toArray,List.set_cons_succ,List.set_cons_zero,List.take_succ_cons,List.take_zero,List.drop_succ_cons,List.drop_zero];go_wp2;go_roundw
   case rel=>exact ⟨i+1,by go_num,by omega,BW,RW8,RW8,RW8⟩
   case measure=>simp [RowKit.intOf];omega
  ·obtain rfl:n=i:=by omega
   clear MA MS;go_wp2_with fail;refine (ML _ (he.below hB)).mono ?_;rintro e W4 ⟨rfl,h1⟩;have stp:=St3 hB h1 rf ro rs;clear hB h1 rf sf ro so rs ss;obtain ⟨hB,rf,ro,rs⟩:=stp;have sf:=RF5 rf;have so:=RFz2 ro;have ss:=RFz2 rs;go_wp2_with fail;have sB:=hB.size;refine post_cut (fun X=>Below w.heap.size w X∧Row X w.heap.size (.cells #[.string z1,.string z2,.slice p n c,.string (S f.r.num),.string (S (f.r.den:Int))] 30)∧Row X (w.heap.size+1) (oN res)∧Row X W2.heap.size (oN (radTo f.t n))) ⟨BW,RW8,RW8,RW8⟩ ?_;clear rf sf ro so rs ss hB sB;rintro V5 ⟨hB,rf,ro,rs⟩;have sf:=RF5 rf;have so:=RFz2 ro;have ss:=RFz2 rs;refine bodyPost_ret (v := .agg #[.string (S res.num),.string (S (res.den:Int))]) ?res rfl ⟨rfl,hB⟩
   case res=>simp [results,Tryz.results48, go_sem,so]
def IvIs (a:Iv) (w:World) (e:Ending) (w':World):Prop:=e = .returned (I a)∧Below w.heap.size w w'
theorem aaround {m b:Rat} (hs:SF m b) (ha:AF m b) (w:World) (he:Env w):Calls Tryz.prog 51 #[Q m,Q b] w (IvIs ⟨m - b,m+b⟩ w):=by
 unfold IvIs I;have hB:Below w.heap.size w w:=Below.refl _ _;have FN:=fnum;have M1:=fun W (H:Env W)=>nsub hs W H
 have M2:=fun W (H:Env W)=>nadd ha W H
 unfold QIs at *;generalize m - b=x at *;generalize m+b=y at *;unfold Q at *;clear hs ha;go_enter Tryz.func51, Tryz.ntmps51;go_wp2_with fail;have d0_o:w.heap.size≤w.heap.size+1+1:=by have:=hB.size;omega
 have sB:=hB.size;refine wp_cut (fun X=>Below w.heap.size w X∧Row X w.heap.size (oN m)∧Row X (w.heap.size+1) (oN b)∧Row X (w.heap.size+1+1) oI0) ⟨BW,RW8,RW8,RW8⟩ ?_;clear hB sB;rintro V1 ⟨hB,rx,ry,ro⟩;have sx:=RF2 rx;have sy:=RF2 ry;have so:=RFz4 ro;refine wp_region_items 9 [.val (.agg #[.string (S m.num),.string (S (m.den:Int))]),.val (.agg #[.string (S b.num),.string (S (b.den:Int))]),.val (.agg #[.string (S x.num),.string (S (x.den:Int))]),.val (.agg #[.string (S x.num),.string (S (x.den:Int))]),.val (.agg #[.string (S m.num),.string (S (m.den:Int))]),.val (.agg #[.string (S b.num),.string (S (b.den:Int))]),.val (.agg #[.string (S y.num),.string (S (y.den:Int))]),.val (.agg #[.string (S y.num),.string (S (y.den:Int))]),.val (.agg #[.string (S x.num),.string (S (x.den:Int)),.string (S y.num),.string (S (y.den:Int))])] (by kernel_rfl) (by kernel_rfl) trivial (allItems.cons (qi1 fun X h=>RF2 (Row.below rx h)) (allItems.cons (qi1 fun X h=>RF2 (Row.below ry h)) (allItems.cons (qi2 fun X h=>M1 X (he.below (hB.trans (h.mono hB.size)))) (allItems.cons (qif FN) (allItems.cons (qi1 fun X h=>RF2 (Row.below rx h)) (allItems.cons (qi1 fun X h=>RF2 (Row.below ry h)) (allItems.cons (qi2 fun X h=>M2 X (he.below (hB.trans (h.mono hB.size)))) (allItems.cons (qif FN) (allItems.cons qi0 trivial))))))))) ?_;rintro W h1;have stp:=St3 hB h1 rx ry ro;clear hB h1 rx sx ry sy ro so;obtain ⟨hB,rx,ry,ro⟩:=stp;have sx:=RF2 rx;have sy:=RF2 ry;have so:=RFz4 ro;simp only [setItems,List.setIfInBounds_toArray,List.set_cons_succ,List.set_cons_zero,List.take_succ_cons,List.take_zero,List.drop_succ_cons,List.drop_zero]
 go_wp2_with fail;have sB:=hB.size;refine post_cut (fun X=>Below w.heap.size w X∧Row X (w.heap.size+1+1) (oI x y)) ⟨BW,RW8⟩ ?_;clear rx sx ry sy ro so hB sB;rintro V2 ⟨hB,ro⟩;have so:=RFz4 ro;refine bodyPost_ret (v := .agg #[.string (S x.num),.string (S (x.den:Int)),.string (S y.num),.string (S (y.den:Int))]) ?res rfl ⟨rfl,hB⟩
 case res=>simp [results,Tryz.results51, go_sem,so]
theorem arange1 {f:Frm} (h:RangeF f) (hlen:f.t.length≤1000000) (p:Option Addr) (c bf:Nat) (w:World) (rf:Row w bf (oF f.c f.r p f.t.length c)) (hp:TAt 55 w p f.t) (he:Env w):Calls Tryz.prog 50 #[.pointer (some ⟨bf,0,none⟩)] w (avIs (fun a=>rangeI f=a) w):=by
 have hB:Below w.heap.size w w:=Below.refl _ _;have HP:=Lib.hid hp;have MR:=fun W (hp:TAt 55 W p f.t) (H:Env W)=>aradius h.rad hlen (S f.c.num) (S (f.c.den:Int)) p c W hp H
 have MA:=fun W (H:Env W)=>aaround h.lo h.hi W H
 unfold QIs at MR;unfold IvIs I at MA;unfold avIs I rangeI;generalize rad f=b at *;generalize f.c - b=x at *;generalize f.c+b=y at *;unfold Q at *;clear hp h;have sf:=RF5 rf;go_enter Tryz.func50, Tryz.ntmps50;go_wp2_with fail;have df_o:bf<w.heap.size:=by omega
 have d0_o:w.heap.size≤w.heap.size:=by have:=hB.size;omega
 have sB:=hB.size;refine wp_cut (kp1 hB rf fun X=>Row X w.heap.size oI0) ⟨BW,RW8,RW8⟩ ?_;unfold kp1;clear rf sf hB sB;rintro V1 ⟨hB,rf,ro⟩;have sf:=RF5 rf;have so:=RFz4 ro;refine wp_region_items 6 [.val (.pointer (some ⟨bf,0,none⟩)),.val (.agg #[.string (S f.c.num),.string (S (f.c.den:Int))]),.val (.agg #[.string (S f.c.num),.string (S (f.c.den:Int))]),.val (.agg #[.string (S f.c.num),.string (S (f.c.den:Int)),.slice p f.t.length c,.string (S f.r.num),.string (S (f.r.den:Int))]),.val (.agg #[.string (S b.num),.string (S (b.den:Int))]),.val (.agg #[.string (S x.num),.string (S (x.den:Int)),.string (S y.num),.string (S (y.den:Int))])] (by kernel_rfl) (by kernel_rfl) trivial (allItems.cons qi0 (allItems.cons (qi1 fun X h=>RF5 (Row.below rf h)) (allItems.cons qi0 (allItems.cons (qi1 fun X h=>RF5 (Row.below rf h)) (allItems.cons (qi2 fun X h=>MR X (UAt.below HP.out (hB.trans (h.mono hB.size))) (he.below (hB.trans (h.mono hB.size)))) (allItems.cons (qi2 fun X h=>MA X (he.below (hB.trans (h.mono hB.size)))) trivial)))))) ?_;rintro W h1;have stp:=St2 hB h1 rf ro;clear hB h1 rf sf ro so;obtain ⟨hB,rf,ro⟩:=stp;have sf:=RF5 rf;have so:=RFz4 ro;simp only [setItems,List.setIfInBounds_toArray,List.set_cons_succ,List.set_cons_zero,List.take_succ_cons,List.take_zero,List.drop_succ_cons,List.drop_zero];go_wp2_with fail;have sB:=hB.size;refine post_cut (fun X=>Below w.heap.size w X∧Row X w.heap.size (oI x y)) ⟨BW,RW8⟩ ?_;clear rf sf ro so hB sB;rintro V2 ⟨hB,ro⟩;have so:=RFz4 ro;refine bodyPost_ret (v := .agg #[.string (S x.num),.string (S (x.den:Int)),.string (S y.num),.string (S (y.den:Int))]) ?res rfl ⟨⟨x,y⟩,rfl,rfl,hB⟩
 case res=>simp [results,Tryz.results50, go_sem,so]
theorem avbad {f:Frm} (ho:f.Ok) (hd:FDig 200 f) (p:Option Addr) (c:Nat) (w:World) (hp:TAt 55 w p f.t) (he:Env w):Calls Tryz.prog 120 #[FV f p c] w (BoolOk false w):=by
 have hB:Below w.heap.size w w:=Below.refl _ _;have HP:=Lib.hid hp;have MV:=fun W (hp:TAt 55 W p f.t) (H:Env W)=>avalid_ok ho hd p c W hp H
 unfold BoolOk FV at *;clear hp;go_enter Tryz.func120, Tryz.ntmps120;go_wp2_with fail;have sB:=hB.size;refine world_cut (fun X=>Below w.heap.size w X) BW ?_;clear hB sB;rintro V1 hB;refine (MV _ (UAt.below HP.out hB) (he.below hB)).mono ?_;rintro e W2 ⟨rfl,h1⟩;have stp:=St0 hB h1;clear hB h1;have hB:=stp;clear stp;go_wp2;go_ret;exact ⟨rfl,hB⟩
theorem afbad {f:Frm} (ho:f.Ok) (hd:FDig 200 f) (p:Option Addr) (c:Nat) (w:World) (hp:TAt 55 w p f.t) (he:Env w):Calls Tryz.prog 115 #[FV f p c] w (BoolOk false w):=by
 have hB:Below w.heap.size w w:=Below.refl _ _;have HP:=Lib.hid hp;have MV:=fun W (hp:TAt 55 W p f.t) (H:Env W)=>avalid_ok ho hd p c W hp H
 unfold BoolOk FV at *;clear hp;go_enter Tryz.func115, Tryz.ntmps115;go_wp2_with fail;have sB:=hB.size;refine world_cut (fun X=>Below w.heap.size w X) BW ?_;clear hB sB;rintro V1 hB;refine (MV _ (UAt.below HP.out hB) (he.below hB)).mono ?_;rintro e W2 ⟨rfl,h1⟩;have stp:=St0 hB h1;clear hB h1;have hB:=stp;clear stp;go_wp2;go_ret;exact ⟨rfl,hB⟩
theorem arbad {f:Frm} (ho:f.Ok) (hd:FDig 200 f) (p:Option Addr) (c:Nat) (w:World) (hp:TAt 55 w p f.t) (he:Env w):Calls Tryz.prog 128 #[FV f p c] w (BoolOk false w):=by
 have hB:Below w.heap.size w w:=Below.refl _ _;have HP:=Lib.hid hp;have MV:=fun W (hp:TAt 55 W p f.t) (H:Env W)=>avalid_ok ho hd p c W hp H
 unfold BoolOk FV at *;clear hp;go_enter Tryz.func128, Tryz.ntmps128;go_wp2_with fail;have sB:=hB.size;refine world_cut (fun X=>Below w.heap.size w X) BW ?_;clear hB sB;rintro V1 hB;refine (MV _ (UAt.below HP.out hB) (he.below hB)).mono ?_;rintro e W2 ⟨rfl,h1⟩;have stp:=St0 hB h1;clear hB h1;have hB:=stp;clear stp;go_wp2;go_ret;exact ⟨rfl,hB⟩
theorem findex1 (G:FuncId) (eg:∀ args w,(callFunc G args).run Tryz.prog w = .ok (.enter G args) w) (s:Nat) (a:Frm) (pa:Option Addr) (ca:Nat) (w:World) (r0:Row w s (oF a.c a.r pa a.t.length ca))
  (ha:∀ W,Below w.heap.size w W→Calls Tryz.prog G #[FV a pa ca] W (BoolOk false W)) :
  Calls Tryz.prog 169 #[.slice (some ⟨s,0,none⟩) 1 1,.func (.func G) #[] #[]] w fun e w'=>e = .returned (.int .i64 (-1))∧Below w.heap.size w w':=by
 unfold FV at ha;go_enter Tryz.func169, Tryz.ntmps169;go_wp2;go_loopw [8] (fun iv wr=>∃ (k:Nat),k≤1∧iv = .int .i64 (k:Int)∧Row wr s (oF a.c a.r pa a.t.length ca)∧Below w.heap.size w wr) (fun iv _=>1 - (RowKit.intOf iv).toNat)
 case atStart=>exact ⟨0,by omega,rfl,r0,Below.refl _ _⟩
 case round =>
  obtain ⟨k,hk,rfl,hr,hB'⟩:=hrel;have k0:=Row.cell_at hr 0 rfl;have k1:=Row.cell_at hr 1 rfl;have k2:=Row.cell_at hr 2 rfl;have k3:=Row.cell_at hr 3 rfl;have k4:=Row.cell_at hr 4 rfl;rcases (show k=0∨k=1 by omega) with rfl | rfl
  ·go_wp2_with (go_at_fn G;refine (ha _ hB').mono ?_;rintro e W1 ⟨rfl,h1⟩);exact ⟨⟨1,by omega,rfl,Row.below hr h1,hB'.trans (h1.mono hB'.size)⟩,by simp [RowKit.intOf]⟩
  ·go_wp2;go_ret;exact ⟨rfl,hB'⟩
theorem fcontains1 (G:FuncId) (eg:∀ args w,(callFunc G args).run Tryz.prog w = .ok (.enter G args) w) (s:Nat) (a:Frm) (pa:Option Addr) (ca:Nat) (w:World) (r0:Row w s (oF a.c a.r pa a.t.length ca))
  (ha:∀ W,Below w.heap.size w W→Calls Tryz.prog G #[FV a pa ca] W (BoolOk false W)) :
  Calls Tryz.prog 114 #[.slice (some ⟨s,0,none⟩) 1 1,.func (.func G) #[] #[]] w (BoolOk false w):=by
 have H:=findex1 G eg s a pa ca w r0 ha;go_enter Tryz.func114, Tryz.ntmps114;go_wp2_with fail;refine H.mono ?_;rintro e W ⟨rfl,h1⟩;go_wp2;go_ret;exact ⟨rfl,h1⟩
theorem findex2 (G:FuncId) (eg:∀ args w,(callFunc G args).run Tryz.prog w = .ok (.enter G args) w) (s:Nat) (a b:Frm) (pa pb:Option Addr) (ca cb:Nat) (w:World) (r0:Row w s (.cells #[.string (S a.c.num),.string (S (a.c.den:Int)),.slice pa a.t.length ca,.string (S a.r.num),.string (S (a.r.den:Int)),.string (S b.c.num),.string (S (b.c.den:Int)),.slice pb b.t.length cb,.string (S b.r.num),.string (S (b.r.den:Int))] 30))
  (ha:∀ W,Below w.heap.size w W→Calls Tryz.prog G #[FV a pa ca] W (BoolOk false W)) (hb:∀ W,Below w.heap.size w W→Calls Tryz.prog G #[FV b pb cb] W (BoolOk false W)) :
  Calls Tryz.prog 169 #[.slice (some ⟨s,0,none⟩) 2 2,.func (.func G) #[] #[]] w fun e w'=>e = .returned (.int .i64 (-1))∧Below w.heap.size w w':=by
 unfold FV at ha hb;go_enter Tryz.func169, Tryz.ntmps169;go_wp2;go_loopw [8] (fun iv wr=>∃ (k:Nat),k≤2∧iv = .int .i64 (k:Int)∧Row wr s (.cells #[.string (S a.c.num),.string (S (a.c.den:Int)),.slice pa a.t.length ca,.string (S a.r.num),.string (S (a.r.den:Int)),.string (S b.c.num),.string (S (b.c.den:Int)),.slice pb b.t.length cb,.string (S b.r.num),.string (S (b.r.den:Int))] 30)∧Below w.heap.size w wr) (fun iv _=>2 - (RowKit.intOf iv).toNat)
 case atStart=>exact ⟨0,by omega,rfl,r0,Below.refl _ _⟩
 case round =>
  obtain ⟨k,hk,rfl,hr,hB'⟩:=hrel;have k0:=Row.cell_at hr 0 rfl;have k1:=Row.cell_at hr 1 rfl;have k2:=Row.cell_at hr 2 rfl;have k3:=Row.cell_at hr 3 rfl;have k4:=Row.cell_at hr 4 rfl;have k5:=Row.cell_at hr 5 rfl;have k6:=Row.cell_at hr 6 rfl;have k7:=Row.cell_at hr 7 rfl;have k8:=Row.cell_at hr 8 rfl;have k9:=Row.cell_at hr 9 rfl;rcases (show k=0∨k=1∨k=2 by omega) with rfl | rfl | rfl
  ·go_wp2_with (go_at_fn G;refine (ha _ hB').mono ?_;rintro e W1 ⟨rfl,h1⟩);exact ⟨⟨1,by omega,rfl,Row.below hr h1,hB'.trans (h1.mono hB'.size)⟩,by simp [RowKit.intOf]⟩
  ·go_wp2_with (go_at_fn G;refine (hb _ hB').mono ?_;rintro e W1 ⟨rfl,h1⟩);exact ⟨⟨2,by omega,rfl,Row.below hr h1,hB'.trans (h1.mono hB'.size)⟩,by simp [RowKit.intOf]⟩
  ·go_wp2;go_ret;exact ⟨rfl,hB'⟩
theorem fcontains2 (G:FuncId) (eg:∀ args w,(callFunc G args).run Tryz.prog w = .ok (.enter G args) w) (s:Nat) (a b:Frm) (pa pb:Option Addr) (ca cb:Nat) (w:World) (r0:Row w s (.cells #[.string (S a.c.num),.string (S (a.c.den:Int)),.slice pa a.t.length ca,.string (S a.r.num),.string (S (a.r.den:Int)),.string (S b.c.num),.string (S (b.c.den:Int)),.slice pb b.t.length cb,.string (S b.r.num),.string (S (b.r.den:Int))] 30))
  (ha:∀ W,Below w.heap.size w W→Calls Tryz.prog G #[FV a pa ca] W (BoolOk false W)) (hb:∀ W,Below w.heap.size w W→Calls Tryz.prog G #[FV b pb cb] W (BoolOk false W)) :
  Calls Tryz.prog 114 #[.slice (some ⟨s,0,none⟩) 2 2,.func (.func G) #[] #[]] w (BoolOk false w):=by
 have H:=findex2 G eg s a b pa pb ca cb w r0 ha hb;go_enter Tryz.func114, Tryz.ntmps114;go_wp2_with fail;refine H.mono ?_;rintro e W ⟨rfl,h1⟩;go_wp2;go_ret;exact ⟨rfl,h1⟩
def IvOk (a:Iv) (w:World) (e:Ending) (w':World):Prop:=e = .returned (.tuple #[I a,.int .i64 0])∧Below w.heap.size w w'
theorem arange {f:Frm} (ho:f.Ok) (h:RangeF f) (hlen:f.t.length≤1000000) (p:Option Addr) (c:Nat) (w:World) (hp:TAt 55 w p f.t) (he:Env w):Calls Tryz.prog 17 #[FV f p c] w (IvOk (rangeI f) w):=by
 unfold IvOk I;have hB:Below w.heap.size w w:=Below.refl _ _;have HP:=Lib.hid hp;clear hp;have CF:=fun s W (r:Row W s (oF f.c f.r p f.t.length c)) (hp:TAt 55 W p f.t) (H:Env W)=>fcontains1 120 (enters_of Tryz.func120 (by kernel_rfl) rfl) s f p c W r (fun X hX=>avbad ho h.rad.dig p c X (hp.below hX) (H.below hX))
 have CR:=fun bf W (r:Row W bf (oF f.c f.r p f.t.length c)) (hp:TAt 55 W p f.t) (H:Env W)=>arange1 h hlen p c bf W r hp H
 generalize rangeI f=o at *;unfold FV;clear h ho;go_enter Tryz.func17, Tryz.ntmps17;go_wp2_with fail;have d0_o:w.heap.size≤w.heap.size+1:=by have:=hB.size;omega
 have sB:=hB.size;refine world_cut (fun X=>Below w.heap.size w X∧Row X w.heap.size (oF f.c f.r p f.t.length c)∧Row X (w.heap.size+1) oI0∧Row X (w.heap.size+1+1) (oF f.c f.r p f.t.length c)) ⟨BW,RW8,RW8,RW8⟩ ?_;clear hB sB;rintro V1 ⟨hB,rf,ro,rb2⟩;have sf:=RF5 rf;have so:=RFz4 ro;have sb2:=RF5 rb2;refine (avcompute_ok 50 _ _ _ (fun a=>o=a) _ (enters_of Tryz.func50 (by kernel_rfl) rfl) (fun X h=>CF _ _ (Row.below rb2 h) (UAt.below HP.out (hB.trans (h.mono hB.size))) (he.below (hB.trans (h.mono hB.size)))) (fun X h=>CR _ _ (Row.below rf h) (UAt.below HP.out (hB.trans (h.mono hB.size))) (he.below (hB.trans (h.mono hB.size))))).mono ?_;rintro e W2 ⟨_,rfl,rfl,h1⟩;have stp:=St3 hB h1 rf ro rb2;clear hB h1 rf sf ro so rb2 sb2;obtain ⟨hB,rf,ro,rb2⟩:=stp;have sf:=RF5 rf;have so:=RFz4 ro;have sb2:=RF5 rb2;unfold I;go_wp2_with fail;have sB:=hB.size;refine post_cut (fun X=>Below w.heap.size w X∧Row X (w.heap.size+1) (oI o.lo o.hi)) ⟨BW,RW8⟩ ?_;clear rf sf ro so rb2 sb2 hB sB;rintro V3 ⟨hB,ro⟩;have so:=RFz4 ro;refine bodyPost_ret (v := .tuple #[.agg #[.string (S o.lo.num),.string (S (o.lo.den:Int)),.string (S o.hi.num),.string (S (o.hi.den:Int))],.int .i64 0]) ?res rfl ⟨rfl,hB⟩
 case res=>simp [results,Tryz.results17, go_sem,so]
end Go.Proofs.YtdikaoahgleffaaGreatDoor
