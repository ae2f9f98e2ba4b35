/-
 over: long division of absolute values.
-/
import Derived.Deep.DeepMust
import Derived.Laws.EntriesVeiled
import Derived.Sort.CutIn
import Derived.Test.YtnokpldomlmamaaGreatDoorKRound
set_option maxRecDepth 100000
set_option maxHeartbeats 4000000
namespace Go.Proofs.YtnokpldomlmamaaGreatDoor
open Go Go.RowKit Go.Lib Go.Shelf
attribute [local go_sem] Oper.semAt_some
/-- A round of the division: the groups of the quotient, the remainder. -/
def overStep (y:Nat) (l:List Nat) (s:List Nat × Nat) (i:Nat):List Nat × Nat :=
 (s.1.set i (min 9999 ((gd l i+10000 * s.2) / y)),gd l i+10000 * s.2 - y * min 9999 ((gd l i+10000 * s.2) / y))
def overTo (y:Nat) (l:List Nat) {m:Nat} (pre:List (Place m)):List Nat × Nat:=pre.foldl (fun s i=>overStep y l s i.1) (List.replicate m 0,0)
theorem overTo_snoc (y:Nat) (l:List Nat) {m:Nat} (pre:List (Place m)) (i:Place m):overTo y l (pre ++ [i])=overStep y l (overTo y l pre) i.1:=by simp [overTo]
theorem overTo_ind (y:Nat) (l:List Nat) {m:Nat} (P:List Nat × Nat→Nat→Prop) (h0:P (List.replicate m 0,0) 0)
  (hs:∀ s p i,P s p→P (overStep y l s i) (p+1)):∀ (pre:List (Place m)),P (overTo y l pre) pre.length:=by
 have key:∀ (pre:List (Place m)) s p,P s p→P (pre.foldl (fun s i=>overStep y l s i.1) s) (p+pre.length):=by
  intro pre
  induction pre with
  | nil=>intro s p h;exact h
  | cons i pre ih =>
   intro s p h
   have:=ih _ _ (hs s p i.1 h)
   rw [List.length_cons,show p+(pre.length+1)=p+1+pre.length by omega]
   exact this
 intro pre
 have:=key pre _ _ h0
 rwa [Nat.zero_add] at this
theorem overTo_length (y:Nat) (l:List Nat) {m:Nat} (pre:List (Place m)):(overTo y l pre).1.length=m :=
 overTo_ind y l (fun s _=>s.1.length=m) (by simp) (fun s p i h=>by simp [overStep,h]) pre
theorem overTo_small (y:Nat) (l:List Nat) {m:Nat} (pre:List (Place m)):Small (overTo y l pre).1 :=
 overTo_ind y l (fun s _=>Small s.1) (fun d hd=>by obtain ⟨_,rfl⟩:=List.mem_replicate.1 hd;decide) (fun s p i h=>by
  intro d hd
  simp only [overStep] at hd
  rcases List.mem_or_eq_of_mem_set hd with h1 | h1
  ·exact h d h1
  ·rw [h1];omega) pre
theorem overTo_lt (y:Nat) {l:List Nat} (hl:Small l) {m:Nat} (pre:List (Place m)):(overTo y l pre).2<10000 ^ pre.length :=
 overTo_ind y l (fun s p=>s.2<10000 ^ p) (by simp) (fun s p i h=>by
  simp only [overStep]
  have h1:=hl.gd_lt i
  rw [Nat.pow_succ]
  omega) pre
theorem round_lt (y:Nat) {l:List Nat} (hl:Small l) {m:Nat} (pre:List (Place m)) (i:Nat):gd l i+10000 * (overTo y l pre).2<10000 ^ (pre.length+1):=by
 have h1:=hl.gd_lt i
 have h2:=overTo_lt y hl pre
 rw [Nat.pow_succ]
 omega
theorem set_eq_of_le (l:List Nat) (y:Nat) (hs:Small l) (m:Nat) (j:Nat) (r:Nat) (hr:r<y) :
  min 9999 ((gd l (m - (j+1))+10000 * r) / y)=(gd l (m - (j+1))+10000 * r) / y:=by
 have:=div_step (gd l (m - (j+1))) r y (hs.gd_lt _) hr
 omega
theorem overTo_upto (y:Nat) (l:List Nat) (hs:Small l) (m:Nat) (hm:m=l.length) (hy:0<y):∀ j,j≤m →
  val (l.drop (m - j))=val ((overTo y l (upto (bk m) j)).1.drop (m - j)) * y+(overTo y l (upto (bk m) j)).2∧(overTo y l (upto (bk m) j)).2<y:=by
 intro j
 induction j with
 | zero =>
  intro _
  rw [List.drop_of_length_le (by omega),List.drop_of_length_le (by rw [overTo_length];omega)]
  simp [upto,overTo,val,hy]
 | succ j ih =>
  intro hj
  obtain ⟨h1,h2⟩:=ih (by omega)
  have e:(bk m j).1=m - (j+1):=by unfold bk;simp;omega
  rw [upto_succ,overTo_snoc,e]
  have hlen:=overTo_length y l (upto (bk m) j)
  generalize overTo y l (upto (bk m) j)=s at *
  obtain ⟨q,r⟩:=s
  simp only at h1 h2 hlen
  have h3:=set_eq_of_le l y hs m j r h2
  simp only [overStep]
  rw [h3]
  have h4:=long_step l q (m - (j+1)) y r (by omega) (by omega) (by rw [show m - (j+1)+1=m - j by omega];exact h1)
  have h5:gd l (m - (j+1))=l.getD (m - (j+1)) 0:=rfl
  rw [h5]
  refine ⟨?_,?_⟩
  ·rw [h4]
   congr 1
   have:=Nat.div_add_mod (l.getD (m - (j+1)) 0+10000 * r) y
   omega
  ·have:=Nat.div_add_mod (l.getD (m - (j+1)) 0+10000 * r) y
   have:=Nat.mod_lt (l.getD (m - (j+1)) 0+10000 * r) hy
   omega
theorem overTo_all (y:Nat) (l:List Nat) (hs:Small l) (m:Nat) (hm:m=l.length) (hy:0<y) :
  val (overTo y l (upto (bk m) m)).1=val l / y∧(overTo y l (upto (bk m) m)).2=val l % y:=by
 obtain ⟨h1,h2⟩:=overTo_upto y l hs m hm hy m (Nat.le_refl _)
 rw [Nat.sub_self,List.drop_zero,List.drop_zero] at h1
 exact div_unique' h1 h2
theorem boxed_off {W:World} {b b':Nat} {t:TypeId} {v:Value} (h:Boxed W b t v) (hne:b≠b') (i:Nat) (u:Value):Boxed (W.setCell ⟨b',i,none⟩ u) b t v:=(Below.heap_setCell W ⟨b',i,none⟩ u b hne).trans h
theorem IsNum.setOff {W:World} {A:Option Addr} {n c x:Nat} (h:IsNum W A n c x) {p:Addr} (hp:∀ ad,A=some ad→ad.block≠p.block) (u:Value):IsNum (W.setCell p u) A n c x:=by
 obtain ⟨l,h1,h2,h3,h4⟩:=h
 refine ⟨l,⟨h1.1,fun hn => ?_⟩,h2,h3,h4⟩
 obtain ⟨ad,e,hlt,hc⟩:=h1.2 hn
 refine ⟨ad,e,by simpa [World.setCell] using hlt,fun j u' hu => ?_⟩
 rw [World.cell?_setCell_other W _ _ u (fun e'=>hp ad e (by rw [e',block_of_add]))]
 exact hc j u' hu
theorem ints_set (l:List Nat) (i d:Nat):(ints l).set i (.int .i64 (d:Int))=ints (l.set i d):=by simp [ints,List.map_set]
theorem arr_set {W:World} {b:Nat} {t:TypeId} {l:List Nat} (h:W.heap[b]? = some (.cells (ints l).toArray t (0,0))) (i d:Nat) :
  (W.setCell ⟨b,i,none⟩ (.int .i64 (d:Int))).heap[b]? = some (.cells (ints (l.set i d)).toArray t (0,0)):=by
 simp only [World.setCell,Array.getElem?_modify,h]
 simp [ints_set]
theorem arr_num {W:World} {b:Nat} {t:TypeId} {l:List Nat} (h:W.heap[b]? = some (.cells (ints l).toArray t (0,0))):NumV W (some ⟨b,0,none⟩) l.length l :=
 ⟨by rw [ints_length,Nat.mul_one],fun _=>⟨_,rfl,(Array.getElem?_eq_some_iff.1 h).1,fun j u hu=>by
  have e:(Addr.add ⟨b,0,none⟩ j)=⟨b,j,none⟩:=by
   unfold Addr.add
   split <;> simp_all
  rw [e,cell_of_row _ _ _ _ _ _ h,List.getElem?_toArray]
  exact hu⟩⟩
/-- What holds between two rounds. -/
structure OverI (w:World) (A B:Option Addr) (n c m e y:Nat) (l:List Nat) (pre:List (Place n)) (W:World):Prop where
 m:Boxed W w.heap.size 191 (.slice B m e)
 q:Boxed W (w.heap.size+1) 191 (.slice (some ⟨w.heap.size+1+1+1,0,none⟩) n n)
 arr:W.heap[w.heap.size+1+1+1]? = some (.cells (ints (overTo y l pre).1).toArray 3 (0,0))
 s:Boxed W (w.heap.size+1+1+1+1) 191 (.slice A n c)
 r:∃ Ar nr cr,Boxed W (w.heap.size+1+1) 191 (.slice Ar nr cr)∧IsNum W Ar nr cr (overTo y l pre).2
 below:Below w.heap.size w W
theorem boxed_key {X:World} {row:Option Nat} (hr:∀ r,row=some r→∃ o:Obj,X.heap[r]? = some o∧o.isCells=false) {b:Nat} {cs:Array Value} {t:TypeId} {f:Nat × Nat} (hb:X.heap[b]? = some (.cells cs t f)):some b≠row:=fun e=>by
 obtain ⟨o,ho,hc⟩:=hr b e.symm
 rw [hb] at ho;cases ho;cases hc
theorem overI_own (w:World) (A B:Option Addr) (n c m e y:Nat) (l:List Nat) (Bl:Nat) (hBl:w.heap.size≤Bl):OwnFrom Bl (OverI w A B n c m e y l):=by
 intro pre X Y row hs hg hr
 have hr':∀ r,row=some r→∃ o:Obj,X.heap[r]? = some o∧o.isCells=false:=fun r e=>(hr r e).2
 obtain ⟨h1,h2,h3,h4,⟨Ar,nr,cr,h5,h6⟩,h7⟩:=hs
 have hlt:∀ {b:Nat} {cs:Array Value} {t:TypeId} {f:Nat × Nat},X.heap[b]? = some (.cells cs t f)→b<X.heap.size:=fun h=>(Array.getElem?_eq_some_iff.1 h).1
 exact ⟨h1.kept hg (boxed_key hr' h1),h2.kept hg (boxed_key hr' h2),(hg.block _ (hlt h3) (boxed_key hr' h3)).trans h3,h4.kept hg (boxed_key hr' h4),
  ⟨Ar,nr,cr,h5.kept hg (boxed_key hr' h5),h6.kept hg hr'⟩,h7.grown hg h7.size (fun k e=>Nat.le_trans hBl (hr k e).1)⟩
set_option linter.unusedSimpArgs false in
/-- over: the quotient and the remainder. -/
theorem over_any (A B:Option Addr) (n c m e x y:Nat) (w:World) (hx:IsNum w A n c x) (hy:IsNum w B m e y) (hx1:x<10000 ^ 250) (hy1:y<10000 ^ 250) (hy0:0<y) :
  Calls Tryz.prog 190 #[.slice A n c,.slice B m e] w
   fun e' w'=>∃ Aq nq cq Ar nr cr,e' = .returned (.tuple #[.slice Aq nq cq,.slice Ar nr cr])∧IsNum w' Aq nq cq (x / y)∧IsNum w' Ar nr cr (x % y)∧Below w.heap.size w w':=by
 have hn:=hx.le hx1
 obtain ⟨l,hl,nl,vl,_⟩:=hx
 have hln:=Lib.hid hl.len
 have HY1:=Lib.hid hy1
 clear hx1 hy1
 obtain ⟨i0,hi,hz0,hz1,hz2⟩:=info_parts intInfo
 have hmf:∀ (fn:Fn) (first cap:Array Value) (w:World),(Instr.makeFunc fn first cap).run Tryz.prog w = .ok (.func fn first cap) w:=fun _ _ _ _=>rfl
 have hmk:=fun W=>run_make_zeros (P:=Tryz.prog) 191 3 i0 Tryz.underlying191 hi hz0 hz1 hz2 n (by omega) W
 refine (callsIn_wide (n:=3)).1 ?_
 refine callsIn_of_wp_marks Tryz.func190 rfl trivial ?_ rfl
 simp only [Tryz.ntmps190, List.size_toArray,List.length_cons,List.length_nil,Nat.reduceAdd,Nat.reduceSub,Array.replicate_succ,Array.replicate_zero,List.push_toArray,List.append_toArray,List.nil_append,List.cons_append]
 gi_wp2_with (refine ⟨trivial,?_⟩;gi_at_call 222; refine (back_in _ _ _ _ _).mono ?_;rintro e w' ⟨rfl,rfl⟩)
 have hB0:Below w.heap.size w (((((w.alloc (.cells #[.slice B m e] 191)).alloc (.cells #[.slice (some ⟨w.heap.size+1+1+1,0,none⟩) n n] 191)).alloc (.cells #[.slice none 0 0] 191)).alloc (.cells (ints (List.replicate n 0)).toArray 3)).alloc (.cells #[.slice A n c] 191)) :=
  (((((Below.refl _ w).alloc (Nat.le_refl _) _).alloc (by simp) _).alloc (by simp;omega) _).alloc (by simp;omega) _).alloc (by simp;omega) _
 have hI0:OverI w A B n c m e y l [] (((((w.alloc (.cells #[.slice B m e] 191)).alloc (.cells #[.slice (some ⟨w.heap.size+1+1+1,0,none⟩) n n] 191)).alloc (.cells #[.slice none 0 0] 191)).alloc (.cells (ints (List.replicate n 0)).toArray 3)).alloc (.cells #[.slice A n c] 191)):=by
  have key:∀ (X:World) (o:Obj) (b:Nat),b=X.heap.size→(X.alloc o).heap[b]? = some o:=fun X o b hb=>by rw [hb];exact heap_alloc_new X o
  have keep:∀ (X:World) (o o':Obj) (b:Nat),X.heap[b]? = some o→(X.alloc o').heap[b]? = some o:=fun X o o' b hb=>(Below.heap_alloc X o' b (Array.getElem?_eq_some_iff.1 hb).1).trans hb
  refine ⟨keep _ _ _ _ (keep _ _ _ _ (keep _ _ _ _ (keep _ _ _ _ (key _ _ _ rfl)))),keep _ _ _ _ (keep _ _ _ _ (keep _ _ _ _ (key _ _ _ (by simp)))),?_,key _ _ _ (by simp),⟨none,0,0,keep _ _ _ _ (keep _ _ _ _ (key _ _ _ (by simp))),IsNum.nil⟩,hB0⟩
  exact keep _ _ _ _ (key _ _ _ (by simp))
 generalize hW0:(((((w.alloc (.cells #[.slice B m e] 191)).alloc (.cells #[.slice (some ⟨w.heap.size+1+1+1,0,none⟩) n n] 191)).alloc (.cells #[.slice none 0 0] 191)).alloc (.cells (ints (List.replicate n 0)).toArray 3)).alloc (.cells #[.slice A n c] 191))=W0 at *
 have hsz:W0.heap.size=w.heap.size+1+1+1+1+1:=by rw [← hW0];simp
 clear hW0
 refine wpIn_rangeFunc_ownG rfl (by omega) (gf := 247) (lb:=#[.pointer (some ⟨w.heap.size+1+1+1+1,0,none⟩)]) rfl trivial (enters_of Tryz.func247 (by kernel_rfl) rfl)
  (back_stops 2 (by omega) (w.heap.size+1+1+1+1) w.heap.size A n c l (by omega) _ (by omega) (by omega) hI0.s.cell (Reads.keep hl fun p hp=>hB0.cell hp)) KpB.trans (KpB.book (by omega) (by omega)) (Below.refl _ _) (fun _=>rfl)
  (OverI w A B n c m e y l) (fun _ _ _=>False) (overI_own _ _ _ _ _ _ _ _ _ _ (by omega)) (fun _ _ _ _ _ hs _ _=>hs) hI0
  ?a1 ?assign ?body ?done ?stop
 case assign =>
  intro q x W K hK
  gi_wp2
  exact hK
 case body =>
  rintro q pre i W hI hlt
  have hmx:Tryz.prog.follows .mixedOrders=true:=by kernel_rfl
  have hiv:i.1<n:=by have:=i.2;omega
  have hd1:=nl.1.gd_lt i.1
  have hrl:=round_lt y nl.1 pre i.1
  have hqlen:=overTo_length y l pre
  have hqs:=overTo_small y l pre
  obtain ⟨hM,hQ,hArr,hS,⟨Ar,nr,cr,hR,hrn⟩,hB⟩:=hI
  obtain ⟨rl,hrl1,hrl2,hrl3,hrl4⟩:=hrn
  have HRL:=Lib.hid hrl
  have HQL:=Lib.hid hqlen
  have HR3:=Lib.hid hrl3
  have HYW:=Lib.hid (hy.below hB)
  have hnr:nr≤1000:=by
   have h9:IsNum W Ar nr cr (overTo y l pre).2:=⟨rl,hrl1,hrl2,hrl3,hrl4⟩
   have:=h9.le (overTo_lt y nl.1 pre)
   omega
  have hcMo:=hM.cell
  have hcRo:=hR.cell
  have hfR:=hR.frozen
  have hcRa:=fun o=>cell_keep o hcRo
  have hlit:=World.ownsRow_lit (base:=W.heap.size) (e := 3) (size:=1) W #[.int .i64 (gd l i.1:Nat)] 1 (Nat.le_refl _) (by unfold maxLen;omega) rfl
  have hsrc:Reads (W.alloc (.cells #[.int .i64 (gd l i.1:Nat)] 3)) W.heap.size 1 Ar nr (ints rl):=hrl1.alloc (Nat.le_refl _) _
  clear hrl hqlen hrl3 hrl4
  gi_wp2_with (first
   | (gi_at_builtin;refine wpListIn_append_reads _ rfl (.tmp 18) (.tmp 19) 191 rfl W.heap.size 3 i0 (.int .i64 0) 1 8 Tryz.underlying191 hi hz0 hz1 hz2 rfl (by decide) (.slice (some ⟨W.heap.size,0,none⟩) 1 1) 1 [.int .i64 (gd l i.1:Nat)] rfl hlit W.heap.size Ar nr cr (ints rl) rfl hsrc (ints_one rl) (by unfold maxLen;omega) (by omega) (by simp) ?_;intro v' W1 hown1 hgrow1;obtain ⟨A1,c1,rfl⟩:=own_slice hown1;have hbW1:Below W.heap.size W W1:=((Below.refl _ _).alloc (Nat.le_refl _) _).grown hgrow1 (by simp) (fun g hg=>by simp [Value.ownBlock] at hg;omega);have hR1:=boxed_later hR hbW1;have hM1:=boxed_later hM hbW1;have hcR1:=hR1.cell;have hfR1:=hR1.frozen;have hcM1:=hM1.cell;have hN1:NumV W1 A1 (1+nr) (gd l i.1 :: rl):=(Reads.of_own hown1:Reads W1 W1.heap.size 1 A1 (1+nr) _);have hcap1:=own_le hown1)
   | (refine ⟨trivial,?_⟩;gi_at_call 230; go_must (refine (CallsIn.inRound q (callsIn_wide.2 (trimmed_any A1 (1+nr) c1 (gd l i.1 :: rl) _ hN1 (by omega) hcap1 (Small.mk hd1 hrl2.1)))).mono ?_;rintro e1 Wt ⟨⟨kt,rfl,hkt,hNt,hnt,hvt⟩,rfl⟩)))
  have HA1:Hid (∀ ad,A1=some ad→W.heap.size≤ad.block):=Lib.hid (fun ad ea=>own_ge hown1 _ (by rw [ea];rfl))
  have hSl:w.heap.size+1+1+1+1<W.heap.size:=hS.lt
  have hQ1:=boxed_later hQ hbW1
  have hS1:=boxed_later hS hbW1
  have hArr1:Wt.heap[w.heap.size+1+1+1]? = some (.cells (ints (overTo y l pre).1).toArray 3 (0,0)):=(hbW1.block _ (Array.getElem?_eq_some_iff.1 hArr).1).trans hArr
  obtain ⟨R,hRdef⟩:∃ R,R=gd l i.1+10000 * (overTo y l pre).2:=⟨_,rfl⟩
  have hnumR:IsNum Wt A1 kt c1 R:=⟨_,hNt,hnt,by rw [hvt,hRdef,← HR3.out];rfl,by omega⟩
  have hW3sz:(Wt.setCell ⟨w.heap.size+1+1,0,none⟩ (.slice A1 kt c1)).heap.size=Wt.heap.size:=by simp [World.setCell]
  have hM3:=(boxed_far hM1 (b':=w.heap.size+1+1) (by omega) (.slice A1 kt c1)).alloc (.cells #[.func (.func 231) #[.slice B m e] #[]] 240)
  have hQ3:=(boxed_far hQ1 (b':=w.heap.size+1+1) (by omega) (.slice A1 kt c1)).alloc (.cells #[.func (.func 231) #[.slice B m e] #[]] 240)
  have hS3:=(boxed_far hS1 (b':=w.heap.size+1+1) (by omega) (.slice A1 kt c1)).alloc (.cells #[.func (.func 231) #[.slice B m e] #[]] 240)
  have hR3:=(hR1.set (.slice A1 kt c1)).alloc (.cells #[.func (.func 231) #[.slice B m e] #[]] 240)
  have hN3:=(hnumR.setCell hR1 (fun a x e=>by cases e) (.slice A1 kt c1)).alloc (.cells #[.func (.func 231) #[.slice B m e] #[]] 240)
  have hF3:=Boxed.new (Wt.setCell ⟨w.heap.size+1+1,0,none⟩ (.slice A1 kt c1)) 240 (.func (.func 231) #[.slice B m e] #[])
  rw [hW3sz] at hF3
  have hArr3:((Wt.setCell ⟨w.heap.size+1+1,0,none⟩ (.slice A1 kt c1)).alloc (.cells #[.func (.func 231) #[.slice B m e] #[]] 240)).heap[w.heap.size+1+1+1]? = some (.cells (ints (overTo y l pre).1).toArray 3 (0,0)):=by
   rw [Below.heap_alloc _ _ _ (by rw [hW3sz];exact (Array.getElem?_eq_some_iff.1 hArr1).1),Below.heap_setCell _ _ _ _ (by simp)]
   exact hArr1
  have hbt3:Below w.heap.size Wt ((Wt.setCell ⟨w.heap.size+1+1,0,none⟩ (.slice A1 kt c1)).alloc (.cells #[.func (.func 231) #[.slice B m e] #[]] 240)) :=
   ((Below.refl w.heap.size Wt).setCell (p:=⟨w.heap.size+1+1,0,none⟩) (by simp;omega) _).alloc (by rw [hW3sz];have:=hB.size;have:=hbW1.size;omega) _
  have hB3:=(hB.trans (hbW1.mono hB.size)).trans hbt3
  have hk3:∀ D,KeepsFrom D W ((Wt.setCell ⟨w.heap.size+1+1,0,none⟩ (.slice A1 kt c1)).alloc (.cells #[.func (.func 231) #[.slice B m e] #[]] 240)):=fun D =>
   ((keepsFrom_of_below hbW1).trans ((KeepsOthers.setCell _ _ _).from D)).trans ((KeepsOthers.alloc _ _).from D)
  have hp3:KpB w.heap.size (w.heap.size+1+1+1+1) W ((Wt.setCell ⟨w.heap.size+1+1,0,none⟩ (.slice A1 kt c1)).alloc (.cells #[.func (.func 231) #[.slice B m e] #[]] 240)) :=
   ((KpB.of_below hbW1 (by have:=hM.lt;omega) hS.lt).trans (KpB.set (by simp;omega) (by simp;omega) _)).trans ⟨(Below.refl _ _).alloc (by rw [hW3sz];have:=hB.size;have:=hbW1.size;omega) _,Below.heap_alloc _ _ _ (by rw [hW3sz];exact hS1.lt)⟩
  have hbf:w.heap.size+1+1+1+1<Wt.heap.size:=hS1.lt
  generalize hbfe:Wt.heap.size=bf at *
  generalize ((Wt.setCell ⟨w.heap.size+1+1,0,none⟩ (.slice A1 kt c1)).alloc (.cells #[.func (.func 231) #[.slice B m e] #[]] 240))=W3 at *
  have hY3:=hy.below hB3
  have hMy:Mod y:=mod_of_pow HY1.out (by omega)
  have hMyd:∀ d,d≤10000→Mod (y * d):=fun d hd=>mod_of_pow (K:=251) (by
   have h2:y * d<10000 ^ 250 * 10000:=by
    have h3:y * d≤y * 10000:=Nat.mul_le_mul_left _ hd
    exact Nat.lt_of_le_of_lt h3 (Nat.mul_lt_mul_of_pos_right HY1.out (by decide))
   rwa [← Nat.pow_succ] at h2) (by omega)
  have hMR:Mod R:=mod_of_pow (K:=pre.length+1) (by rw [hRdef];exact HRL.out) (by omega)
  obtain ⟨Qd,hQd⟩:∃ Qd,Qd=min 9999 (R / y):=⟨_,rfl⟩
  have eg:∀ args w,(callFunc 232 args).run Tryz.prog w = .ok (.enter 232 args) w:=enters_of Tryz.func232 (by kernel_rfl) rfl
  have hsearch:∀ V,Below W3.heap.size W3 V→Calls Tryz.prog 59 #[.int .i64 9999,.func (.func 232) #[] #[.pointer (some ⟨bf,0,none⟩),.pointer (some ⟨w.heap.size+1+1,0,none⟩)]] V
    fun e' w'=>e' = .returned (.int .i64 (Qd:Int))∧Below V.heap.size V w':=fun V hV=>by
   have h:=search_any 9999 232 #[.pointer (some ⟨bf,0,none⟩),.pointer (some ⟨w.heap.size+1+1,0,none⟩)] (fun d=>decide (R<(d+1) * y)) V eg (by omega)
    (fun U d hd hU=>over1_any A1 B kt c1 m e y R d bf (w.heap.size+1+1) U ((hY3.below hV).below hU) ((hN3.below hV).below hU) hMy (hMyd _ (by omega)) hMR hd (boxed_later (boxed_later hF3 hV) hU).cell (boxed_later (boxed_later hR3 hV) hU).cell)
    (fun a b hab _ h=>search_mono R y a b hab h)
   refine Calls.mono h ?_
   rintro e' w' ⟨⟨k,rfl,hk,h1,h2⟩,hb⟩
   refine ⟨?_,hb⟩
   rw [search_group' R y k hy0 hk h1 h2,hQd]
  have hQ9:Qd<10000:=by omega
  have hQR:y * Qd≤R:=by
   have h1:Qd≤R / y:=by omega
   exact Nat.le_trans (Nat.mul_le_mul_left _ h1) (Nat.mul_div_le R y)
  have HSR:=Lib.hid hsearch
  have HQd:=Lib.hid hQd
  have HRd:=Lib.hid hRdef
  have HN3:=Lib.hid hN3
  have HY3:=Lib.hid hY3
  have HMy:=Lib.hid hMy
  have HMyd:=Lib.hid hMyd
  have HMR:=Lib.hid hMR
  have HQR:=Lib.hid hQR
  have HK3:=Lib.hid hk3
  have HP3:=Lib.hid hp3
  have HA3:=Lib.hid hArr3
  clear hsearch hQd hRdef hN3 hY3 hMy hMyd hMR hQR hk3 hp3 hArr3 eg hbt3 hnumR hW3sz hArr1 hvt hnt hNt hN1 hown1 hgrow1 hlit hsrc hcRa hcRo hfR hcMo hcR1 hfR1 hcM1 hR1 hM1 hQ1 hS1 hbfe
  have hcQ3:=hQ3.cell
  gi_cut [] from 41 (fun wx=>∃ W4,Below W3.heap.size W3 W4∧wx=W4.setCell ⟨w.heap.size+1+1+1,i.1,none⟩ (.int .i64 (Qd:Int)))
  case first =>
   gi_region_with_o (refine ⟨trivial,?_⟩;gi_at_call 59; go_must (refine (CallsIn.inRound q (callsIn_wide.2 (HSR.out _ (by exact ⟨rfl,rfl,rfl,Nat.le_refl _,fun _ _=>rfl⟩)))).mono ?_;rintro e1 W4 ⟨rfl,hb4⟩;have hQ4:=boxed_later hQ3 (below_of_drew hb4);have hcQ4:=hQ4.cell;have hArr4:W4.heap[w.heap.size+1+1+1]? = some (.cells (ints (overTo y l pre).1).toArray 3 (0,0)):=((below_of_drew hb4).block _ (Array.getElem?_eq_some_iff.1 HA3.out).1).trans HA3.out;have hcA4:W4.cell? ⟨w.heap.size+1+1+1,i.1,none⟩=some (.int .i64 ((overTo y l pre).1.getD i.1 0:Nat)):=(by rw [cell_of_row _ _ _ _ _ _ hArr4,List.getElem?_toArray,ints_get _ _ (by rw [HQL.out];exact hiv)]);have hfA4:W4.frozen? ⟨w.heap.size+1+1+1,i.1,none⟩=false:=frozen_of_row _ _ _ _ _ hArr4;have HA4:=Lib.hid hArr4;clear hArr4))
   all_goals (gi_wp2_with fail;gi_meet;exact ⟨W4,below_of_drew hb4,rfl⟩)
  case rest =>
   obtain ⟨W4,hb4,rfl⟩:=hcut
   have hArr4:W4.heap[w.heap.size+1+1+1]? = some (.cells (ints (overTo y l pre).1).toArray 3 (0,0)):=(hb4.block _ (Array.getElem?_eq_some_iff.1 HA3.out).1).trans HA3.out
   have hArr5:(W4.setCell ⟨w.heap.size+1+1+1,i.1,none⟩ (.int .i64 (Qd:Int))).heap[w.heap.size+1+1+1]? = some (.cells (ints ((overTo y l pre).1.set i.1 Qd)).toArray 3 (0,0)):=arr_set hArr4 i.1 Qd
   have hM5:=boxed_off (boxed_later hM3 hb4) (b':=w.heap.size+1+1+1) (by omega) i.1 (.int .i64 (Qd:Int))
   have hQ5:=boxed_off (boxed_later hQ3 hb4) (b':=w.heap.size+1+1+1) (by omega) i.1 (.int .i64 (Qd:Int))
   have hS5:=boxed_off (boxed_later hS3 hb4) (b':=w.heap.size+1+1+1) (by omega) i.1 (.int .i64 (Qd:Int))
   have hR5:=boxed_off (boxed_later hR3 hb4) (b':=w.heap.size+1+1+1) (by omega) i.1 (.int .i64 (Qd:Int))
   have hF5:=boxed_off (boxed_later hF3 hb4) (b':=w.heap.size+1+1+1) (by omega) i.1 (.int .i64 (Qd:Int))
   have hA5:=fun D=>((HK3.out D).trans (keepsFrom_of_below hb4)).trans ((KeepsOthers.setCell W4 ⟨w.heap.size+1+1+1,i.1,none⟩ (.int .i64 (Qd:Int))).from D)
   have hp5:KpB w.heap.size (w.heap.size+1+1+1+1) W (W4.setCell ⟨w.heap.size+1+1+1,i.1,none⟩ (.int .i64 (Qd:Int))):=(HP3.out.trans (KpB.of_below hb4 hB3.size hS3.lt)).trans (KpB.set (by simp;omega) (by simp) _)
   have hB5:Below w.heap.size w (W4.setCell ⟨w.heap.size+1+1+1,i.1,none⟩ (.int .i64 (Qd:Int))):=(hB3.trans (hb4.mono hB3.size)).setCell (p:=⟨w.heap.size+1+1+1,i.1,none⟩) (by simp;omega) _
   have hN5:IsNum (W4.setCell ⟨w.heap.size+1+1+1,i.1,none⟩ (.int .i64 (Qd:Int))) A1 kt c1 R:=(HN3.out.below hb4).setOff (fun ad ea=>by have:=HA1.out ad ea;simp;omega) _
   generalize W4.setCell ⟨w.heap.size+1+1+1,i.1,none⟩ (.int .i64 (Qd:Int))=W5 at *
   have hY5:=hy.below hB5
   have hcM5:=hM5.cell
   have hcQ5:=hQ5.cell
   have hcR5:=hR5.cell
   have hfR5:=hR5.frozen
   have hcF5:=hF5.cell
   have hcA5:W5.cell? ⟨w.heap.size+1+1+1,i.1,none⟩=some (.int .i64 (Qd:Int)):=by
    rw [cell_of_row _ _ _ _ _ _ hArr5,List.getElem?_toArray,ints_get _ _ (by rw [List.length_set,HQL.out];exact hiv)]
    congr 2
    have:=HQL.out
    rw [List.getD_eq_getElem?_getD,List.getElem?_set]
    simp [this,hiv]
   have HY5:=Lib.hid hY5
   have HN5:=Lib.hid hN5
   have HK5:=Lib.hid hA5
   have HP5:=Lib.hid hp5
   have HA5:=Lib.hid hArr5
   clear hY5 hN5 hA5 hp5 hArr5 hArr4 hb4 hM3 hQ3 hS3 hR3 hF3 hcQ3 HSR HK3 HP3 HA3 HN3 HY3 hB3
   gi_wp2_with fail
   refine Code.wpIn_mono (Q:=fun ex _ wx=>ex = .normal∧∃ W7 A7 n7 c7,Below W5.heap.size W5 W7∧IsNum W7 A7 n7 c7 (R - y * Qd)∧wx=W7.setCell ⟨w.heap.size+1+1,0,none⟩ (.slice A7 n7 c7)) ?rest ?first
   case first =>
    clear HK5 HP5 HA5 HRL HQL HR3 HYW HRd HQd hB5 hM5 hS5 hcM5 hArr hS hB hM hQ hR hbW1 hrl1 hrl2 HA1 hqs hd1 hlt hI0 hB0 hy
    have hS0:W5.drew.cell? ⟨w.heap.size+1,0,none⟩=some (.slice (some ⟨w.heap.size+1+1+1,0,none⟩) n n)∧W5.drew.cell? ⟨bf,0,none⟩=some (.func (.func 231) #[.slice B m e] #[])∧W5.drew.cell? ⟨w.heap.size+1+1+1,i.1,none⟩=some (.int .i64 (Qd:Int)):=⟨hcQ5,hcF5,hcA5⟩
    refine round_held (fun X=>X.cell? ⟨w.heap.size+1,0,none⟩=some (.slice (some ⟨w.heap.size+1+1+1,0,none⟩) n n)∧X.cell? ⟨bf,0,none⟩=some (.func (.func 231) #[.slice B m e] #[])∧X.cell? ⟨w.heap.size+1+1+1,i.1,none⟩=some (.int .i64 (Qd:Int))) hmx (by kernel_rfl) (fun h=>by obtain ⟨_,_,h1,_⟩:=h;cases h1) hS0 (fun hHeld => ?_)
    refine wpAnyH_take (i:=1) (v := ?v1) rfl (by kernel_rfl) (by kernel_rfl) (by kernel_rfl) (fun _ _ _ h=>h) (Or.inl ⟨by rfl,?hy1⟩) hHeld ?more1
    case hy1=>(intro X hX;obtain ⟨hx1,hx2,hx3⟩:=hX;go_simp;try with_reducible rfl)
    try simp only [Act.put,List.setIfInBounds_toArray,List.set_cons_zero,List.set_cons_succ]
    refine wpAnyH_take (i:=2) (v := ?v2) rfl (by kernel_rfl) (by kernel_rfl) (by kernel_rfl) (fun _ _ _ h=>h) (Or.inl ⟨by rfl,?hy2⟩) hHeld ?more2
    case hy2=>(intro X hX;obtain ⟨hx1,hx2,hx3⟩:=hX;go_simp;try with_reducible rfl)
    try simp only [Act.put,List.setIfInBounds_toArray,List.set_cons_zero,List.set_cons_succ]
    refine wpAnyH_take (i:=3) (v := ?v3) rfl (by kernel_rfl) (by kernel_rfl) (by kernel_rfl) (fun _ _ _ h=>h) (Or.inl ⟨by rfl,?hy3⟩) hHeld ?more3
    case hy3=>(intro X hX;obtain ⟨hx1,hx2,hx3⟩:=hX;go_simp;try with_reducible rfl)
    try simp only [Act.put,List.setIfInBounds_toArray,List.set_cons_zero,List.set_cons_succ]
    refine wpAnyH_take (i:=4) (v := ?v4) rfl (by kernel_rfl) (by kernel_rfl) (by kernel_rfl) (fun _ _ _ h=>h) (Or.inl ⟨by rfl,?hy4⟩) hHeld ?more4
    case hy4=>(intro X hX;obtain ⟨hx1,hx2,hx3⟩:=hX;go_simp;try with_reducible rfl)
    try simp only [Act.put,List.setIfInBounds_toArray,List.set_cons_zero,List.set_cons_succ]
    refine wpAnyH_take (i:=5) (v := ?v5) rfl (by kernel_rfl) (by kernel_rfl) (by kernel_rfl) (fun _ _ _ h=>h) (Or.inl ⟨by rfl,?hy5⟩) hHeld ?more5
    case hy5=>(intro X hX;obtain ⟨hx1,hx2,hx3⟩:=hX;go_simp;try with_reducible rfl)
    try simp only [Act.put,List.setIfInBounds_toArray,List.set_cons_zero,List.set_cons_succ]
    refine wpAnyH_ready (rs:=[0,6]) (by kernel_rfl) (by simp) (AllReadyH.cons rfl (fun K hK => ?_) (AllReadyH.cons rfl (fun K hK => ?_) AllReadyH.nil))
    ·go_simp
     refine hK.out _ _ hS0 (fun _ => ?_)
     clear hK K
     try simp only [Act.put,List.setIfInBounds_toArray,List.set_cons_zero,List.set_cons_succ]
     refine wpAnyH_ready (rs:=[6]) (by kernel_rfl) (by simp) (AllReadyH.cons rfl (fun K hK => ?_) AllReadyH.nil)
     go_simp
     refine Calls.mono (by_any B m e y Qd _ (by exact HY5.out) HMy.out hQ9) ?_
     rintro e1 W6 ⟨A6,n6,c6,rfl,h6,hb6⟩
     have hb6':=below_of_drew hb6
     have hS6:W6.cell? ⟨w.heap.size+1,0,none⟩=some (.slice (some ⟨w.heap.size+1+1+1,0,none⟩) n n)∧W6.cell? ⟨bf,0,none⟩=some (.func (.func 231) #[.slice B m e] #[])∧W6.cell? ⟨w.heap.size+1+1+1,i.1,none⟩=some (.int .i64 (Qd:Int)):=⟨(boxed_later hQ5 hb6').cell,(boxed_later hF5 hb6').cell,(hb6'.cell (p:=⟨w.heap.size+1+1+1,i.1,none⟩) (by have:=hF5.lt;simp;omega)).trans hcA5⟩
     have hR6:Boxed W6 (w.heap.size+1+1) 191 (.slice A1 kt c1):=boxed_later hR5 hb6'
     have hcR6:=hR6.cell
     have hN6:=Lib.hid (HN5.out.below hb6')
     refine hK.out _ _ hS6 (fun hHeld6 => ?_)
     clear hK K
     try simp only [Act.put,List.setIfInBounds_toArray,List.set_cons_zero,List.set_cons_succ]
     refine wpAnyH_ready (rs:=[7]) (by kernel_rfl) (by simp) (AllReadyH.cons rfl (fun K hK => ?_) AllReadyH.nil)
     go_simp
     refine Calls.mono (minus_any A1 A6 kt c1 n6 c6 R (y * Qd) _ (by exact hN6.out) (by exact h6) HMR.out (HMyd.out _ (Nat.le_of_lt hQ9)) HQR.out) ?_
     rintro e1 W7 ⟨A7,n7,c7,rfl,h7,hb7⟩
     have hS7:W7.cell? ⟨w.heap.size+1,0,none⟩=some (.slice (some ⟨w.heap.size+1+1+1,0,none⟩) n n)∧W7.cell? ⟨bf,0,none⟩=some (.func (.func 231) #[.slice B m e] #[])∧W7.cell? ⟨w.heap.size+1+1+1,i.1,none⟩=some (.int .i64 (Qd:Int)):=⟨(boxed_later (boxed_later hQ5 hb6') hb7).cell,(boxed_later (boxed_later hF5 hb6') hb7).cell,(hb7.cell (p:=⟨w.heap.size+1+1+1,i.1,none⟩) (by have:=(boxed_later hF5 hb6').lt;simp;omega)).trans hS6.2.2⟩
     have hR7:=boxed_later hR6 hb7
     have hcR7:=hR7.cell
     have hfR7:=hR7.frozen
     refine hK.out _ _ hS7 (fun hHeld7 => ?_)
     clear hK K
     try simp only [Act.put,List.setIfInBounds_toArray,List.set_cons_zero,List.set_cons_succ]
     refine wpAnyH_ready (rs:=[8]) (by kernel_rfl) (by simp) (AllReadyH.cons rfl (fun K hK => ?_) AllReadyH.nil)
     go_simp
     refine hK.out _ _ ⟨(World.cell?_setCell_other _ _ _ _ (by simp <;> omega)).trans hS7.1,(World.cell?_setCell_other _ _ _ _ (by simp <;> omega)).trans hS7.2.1,(World.cell?_setCell_other _ _ _ _ (by simp <;> omega)).trans hS7.2.2⟩ (fun _ => ?_)
     refine wpAnyH_done (by kernel_rfl) ?_ _
     exact ⟨rfl,W7,A7,n7,c7,hb6'.trans (hb7.mono hb6'.size),h7,rfl⟩
    ·go_simp
     refine Calls.mono (by_any B m e y Qd _ (by exact HY5.out) HMy.out hQ9) ?_
     rintro e1 W6 ⟨A6,n6,c6,rfl,h6,hb6⟩
     have hb6':=below_of_drew hb6
     have hS6:W6.cell? ⟨w.heap.size+1,0,none⟩=some (.slice (some ⟨w.heap.size+1+1+1,0,none⟩) n n)∧W6.cell? ⟨bf,0,none⟩=some (.func (.func 231) #[.slice B m e] #[])∧W6.cell? ⟨w.heap.size+1+1+1,i.1,none⟩=some (.int .i64 (Qd:Int)):=⟨(boxed_later hQ5 hb6').cell,(boxed_later hF5 hb6').cell,(hb6'.cell (p:=⟨w.heap.size+1+1+1,i.1,none⟩) (by have:=hF5.lt;simp;omega)).trans hcA5⟩
     have hR6:Boxed W6 (w.heap.size+1+1) 191 (.slice A1 kt c1):=boxed_later hR5 hb6'
     have hcR6:=hR6.cell
     have hN6:=Lib.hid (HN5.out.below hb6')
     refine hK.out _ _ hS6 (fun hHeld6 => ?_)
     clear hK K
     try simp only [Act.put,List.setIfInBounds_toArray,List.set_cons_zero,List.set_cons_succ]
     refine wpAnyH_ready (rs:=[0]) (by kernel_rfl) (by simp) (AllReadyH.cons rfl (fun K hK => ?_) AllReadyH.nil)
     go_simp
     refine hK.out _ _ hS6 (fun _ => ?_)
     clear hK K
     try simp only [Act.put,List.setIfInBounds_toArray,List.set_cons_zero,List.set_cons_succ]
     refine wpAnyH_ready (rs:=[7]) (by kernel_rfl) (by simp) (AllReadyH.cons rfl (fun K hK => ?_) AllReadyH.nil)
     go_simp
     refine Calls.mono (minus_any A1 A6 kt c1 n6 c6 R (y * Qd) _ (by exact hN6.out) (by exact h6) HMR.out (HMyd.out _ (Nat.le_of_lt hQ9)) HQR.out) ?_
     rintro e1 W7 ⟨A7,n7,c7,rfl,h7,hb7⟩
     have hS7:W7.cell? ⟨w.heap.size+1,0,none⟩=some (.slice (some ⟨w.heap.size+1+1+1,0,none⟩) n n)∧W7.cell? ⟨bf,0,none⟩=some (.func (.func 231) #[.slice B m e] #[])∧W7.cell? ⟨w.heap.size+1+1+1,i.1,none⟩=some (.int .i64 (Qd:Int)):=⟨(boxed_later (boxed_later hQ5 hb6') hb7).cell,(boxed_later (boxed_later hF5 hb6') hb7).cell,(hb7.cell (p:=⟨w.heap.size+1+1+1,i.1,none⟩) (by have:=(boxed_later hF5 hb6').lt;simp;omega)).trans hS6.2.2⟩
     have hR7:=boxed_later hR6 hb7
     have hcR7:=hR7.cell
     have hfR7:=hR7.frozen
     refine hK.out _ _ hS7 (fun hHeld7 => ?_)
     clear hK K
     try simp only [Act.put,List.setIfInBounds_toArray,List.set_cons_zero,List.set_cons_succ]
     refine wpAnyH_ready (rs:=[8]) (by kernel_rfl) (by simp) (AllReadyH.cons rfl (fun K hK => ?_) AllReadyH.nil)
     go_simp
     refine hK.out _ _ ⟨(World.cell?_setCell_other _ _ _ _ (by simp <;> omega)).trans hS7.1,(World.cell?_setCell_other _ _ _ _ (by simp <;> omega)).trans hS7.2.1,(World.cell?_setCell_other _ _ _ _ (by simp <;> omega)).trans hS7.2.2⟩ (fun _ => ?_)
     refine wpAnyH_done (by kernel_rfl) ?_ _
     exact ⟨rfl,W7,A7,n7,c7,hb6'.trans (hb7.mono hb6'.size),h7,rfl⟩
   case rest =>
    rintro _ a7 _ ⟨rfl,W7,A7,n7,c7,hb7,hN7,rfl⟩
    have hR7:=boxed_later hR5 hb7
    have hW5:=hB5.size
    have hlt5:w.heap.size+1+1+1<W5.heap.size:=(Array.getElem?_eq_some_iff.1 HA5.out).1
    have hst:overTo y l (pre ++ [i])=((overTo y l pre).1.set i.1 Qd,R - y * Qd):=by
     rw [overTo_snoc]
     unfold overStep
     rw [← HRd.out,← HQd.out]
    refine ⟨((HK5.out _).trans (keepsFrom_of_below hb7)).trans ((KeepsOthers.setCell _ _ _).from _),(HP5.out.trans (KpB.of_below hb7 hW5 hS5.lt)).trans (KpB.set (by simp;omega) (by simp <;> omega) _),?_⟩
    refine ⟨boxed_far (boxed_later hM5 hb7) (by omega) _,boxed_far (boxed_later hQ5 hb7) (by omega) _,?_,boxed_far (boxed_later hS5 hb7) (by omega) _,⟨A7,n7,c7,hR7.set _,by rw [hst];exact hN7.setCell hR7 (fun a x e=>by cases e) _⟩,(hB5.trans (hb7.mono hW5)).setCell (p:=⟨w.heap.size+1+1,0,none⟩) (by simp;omega) _⟩
    rw [hst,Below.heap_setCell _ _ _ _ (by simp),hb7.block _ hlt5]
    exact HA5.out
 case done =>
  rintro D ys W hD rfl hI hK
  have hmx:Tryz.prog.follows .mixedOrders=true:=by kernel_rfl
  obtain ⟨hall1,hall2⟩:=overTo_all y l nl.1 n hln.out hy0
  obtain ⟨hM,hQ,hArr,hS,⟨Ar,nr,cr,hR,hrn⟩,hB⟩:=hI
  have hqs:=overTo_small y l (upto (bk n) n)
  have hqlen:=overTo_length y l (upto (bk n) n)
  generalize overTo y l (upto (bk n) n)=qr at *
  obtain ⟨ql,rr⟩:=qr
  simp only at hall1 hall2 hArr hrn hqs hqlen
  have hnum:NumV W (some ⟨w.heap.size+1+1+1,0,none⟩) n ql:=by
   rw [← hqlen]
   exact arr_num hArr
  have hcQ:=hQ.cell
  have hcR:=hR.cell
  have hfQ:=hQ.frozen
  have hfR:=hR.frozen
  have HV1:=Lib.hid hall1
  have HV2:=Lib.hid hall2
  have HR:=Lib.hid hrn
  have HN:=Lib.hid hnum
  clear hall1 hall2 hrn hnum hqlen
  gi_wp2
  gi_region_with (refine ⟨trivial,?_⟩;gi_at_call 230; go_must (refine (callsIn_wide.2 (trimmed_any (some ⟨w.heap.size+1+1+1,0,none⟩) n n ql _ (by exact HN.out) (by omega) (Nat.le_refl _) hqs)).mono ?_;rintro e1 Wt ⟨⟨kt,rfl,hkt,hNt,hnt,hvt⟩,rfl⟩))
  all_goals gi_wp2
  all_goals
   have hQ2:=hQ.set (.slice (some ⟨w.heap.size+1+1+1,0,none⟩) kt n)
   have hR2:=boxed_far hR (b':=w.heap.size+1) (by omega) (.slice (some ⟨w.heap.size+1+1+1,0,none⟩) kt n)
   have hQ3:=boxed_far hQ2 (b':=w.heap.size+1+1) (by omega) (.slice Ar nr cr)
   have hR3:=hR2.set (.slice Ar nr cr)
   have hq1:IsNum W (some ⟨w.heap.size+1+1+1,0,none⟩) kt n (x / y):=⟨_,hNt,hnt,by rw [hvt,HV1.out,vl],hkt⟩
   have hq3:=(hq1.setCell hQ (fun a x e=>by cases e) (.slice (some ⟨w.heap.size+1+1+1,0,none⟩) kt n)).setCell hR2 (fun a x e=>by cases e) (.slice Ar nr cr)
   have hr1:IsNum W Ar nr cr (x % y):=by rw [← vl,← HV2.out];exact HR.out
   have hr3:=(hr1.setCell hQ (fun a x e=>by cases e) (.slice (some ⟨w.heap.size+1+1+1,0,none⟩) kt n)).setCell hR2 (fun a x e=>by cases e) (.slice Ar nr cr)
   have hB3:=(hB.setCell (p:=⟨w.heap.size+1,0,none⟩) (by simp) (.slice (some ⟨w.heap.size+1+1+1,0,none⟩) kt n)).setCell (p:=⟨w.heap.size+1+1,0,none⟩) (by simp;omega) (.slice Ar nr cr)
   have hK3:=(Below.heap_setCell (W.setCell ⟨w.heap.size+1,0,none⟩ (.slice (some ⟨w.heap.size+1+1+1,0,none⟩) kt n)) ⟨w.heap.size+1+1,0,none⟩ (.slice Ar nr cr) D (by simp;omega)).trans ((Below.heap_setCell W ⟨w.heap.size+1,0,none⟩ (.slice (some ⟨w.heap.size+1+1+1,0,none⟩) kt n) D (by simp;omega)).trans hK)
   generalize ((W.setCell ⟨w.heap.size+1,0,none⟩ (.slice (some ⟨w.heap.size+1+1+1,0,none⟩) kt n)).setCell ⟨w.heap.size+1+1,0,none⟩ (.slice Ar nr cr))=Wf at *
   have hg:=grownBy_putObj' Wf.drew D (.deferred none)
   have hKd:∀ r,some D=some r→∃ o:Obj,Wf.drew.heap[r]? = some o∧o.isCells=false:=fun r e=>by cases e;exact ⟨_,hK3,rfl⟩
   have hQ4:Boxed (Wf.drew.putObj D (.deferred none)) (w.heap.size+1) 191 _:=Boxed.kept (W:=Wf.drew) hQ3 hg (boxed_key hKd hQ3)
   have hR4:Boxed (Wf.drew.putObj D (.deferred none)) (w.heap.size+1+1) 191 _:=Boxed.kept (W:=Wf.drew) hR3 hg (boxed_key hKd hR3)
   have hq4:IsNum (Wf.drew.putObj D (.deferred none)) _ _ _ _:=IsNum.kept (W:=Wf.drew) hq3 hg hKd
   have hr4:IsNum (Wf.drew.putObj D (.deferred none)) _ _ _ _:=IsNum.kept (W:=Wf.drew) hr3 hg hKd
   have hB4:Below w.heap.size w (Wf.drew.putObj D (.deferred none)):=Below.trans (below_drewN hB3 1) (belowK_b (w:=w) (Nat.le_refl _) Wf.drew D _ _ (by omega) hK3 rfl rfl)
   have hcQ4:=hQ4.cell
   have hcR4:=hR4.cell
   refine ⟨by simp,.inl ⟨_,_,rfl,run_takeDeferred (w:=Wf.drew) hK3,?_⟩⟩
   refine ⟨_,?res,_,_,_,_,_,_,rfl,hq4,hr4,hB4⟩
   case res =>
    simp [results,Tryz.f190, go_sem,hcQ4,hcR4]
 case stop =>
  rintro D cd pre W hD _ h
  exact h.elim
end Go.Proofs.YtnokpldomlmamaaGreatDoor
