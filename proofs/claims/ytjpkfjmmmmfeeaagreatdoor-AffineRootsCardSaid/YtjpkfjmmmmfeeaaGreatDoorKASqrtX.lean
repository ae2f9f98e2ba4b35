/-
 A region that draws its order, in which one call panics: the other operations are said of by items, or wait for the call.; Package affine: Sqrt, where the root is 0.; Package affine: Sqrt of a form that can be less than 0.
-/
import Derived.Test.YtjpkfjmmmmfeeaaGreatDoorKTail3
import Derived.Test.YtjpkfjmmmmfeeaaGreatDoorKASame
import Derived.Test.YtjpkfjmmmmfeeaaGreatDoorKExtra0
import Derived.Test.YtjpkfjmmmmfeeaaGreatDoorKExtra1
set_option linter.unusedSimpArgs false
set_option linter.unusedVariables false
set_option maxRecDepth 100000
set_option maxHeartbeats 16000000
namespace Go.Proofs.YtjpkfjmmmmfeeaaGreatDoor
open Go Go.RowKit Go.Lib Go.Shelf
def failsBy (P:Program) (F:Ending→World→Prop):Result Next→Prop
 | .ok (.enter f args) w'=>Calls P f args w' F
 | _=>False
def failOb (P:Program) (ops:Array Oper) (items:List QItem) (tmps:Array Value) (w:World) (o:Oper) (F:Ending→World→Prop):Prop :=
 ∀ (ρ:Operand→Value) (W:World),Below w.heap.size w W→(∀ v,ρ (.const v)=v)→(∀ g,ρ (.global g) = .pointer (some ⟨g,0,none⟩))→(∀ f,ρ (.func f) = .func (.func f) #[] #[]) →
  (∀ t,foreign ops.toList t=true→ρ (.tmp t)=tmps.getD t undef)→depsSay ops (itemSp items) ρ W o.after.toList →
  Region.wanted o (yieldedBy ops ρ)=true∧failsBy P F ((execOp ρ o).run P W)
def itemsBut (P:Program) (ops:Array Oper) (items:List QItem) (tmps:Array Value) (w:World):List Bool→List Oper→List QItem→Prop
 | true :: bs,o :: l,q :: qs=>itemOb P ops ops.toList items tmps w o q∧itemsBut P ops items tmps w bs l qs
 | false :: bs,o :: l,q :: qs=>itemsBut P ops items tmps w bs l qs
 | [],[],[]=>True
 | _,_,_=>False
theorem itemsBut.get {P:Program} {ops:Array Oper} {items:List QItem} {tmps:Array Value} {w:World}:∀ (bs:List Bool) (l:List Oper) (qs:List QItem),itemsBut P ops items tmps w bs l qs→∀ (i:Nat) (o:Oper),l[i]? = some o→bs[i]? = some true→∃ q,qs[i]? = some q∧itemOb P ops ops.toList items tmps w o q
 | true :: bs,o :: l,q :: qs,h,0,p,h1,_=>by
  simp at h1;subst h1;exact ⟨q,rfl,h.1⟩
 | true :: bs,o :: l,q :: qs,h,i+1,p,h1,h2=>by
  simpa using itemsBut.get bs l qs h.2 i p (by simpa using h1) (by simpa using h2)
 | false :: bs,o :: l,q :: qs,h,0,p,_,h2=>by simp at h2
 | false :: bs,o :: l,q :: qs,h,i+1,p,h1,h2=>by
  simpa using itemsBut.get bs l qs h i p (by simpa using h1) (by simpa using h2)
 | [],[],[],_,i,p,h1,_=>by simp at h1
 | [],_ :: _,_,h,_,_,_,_=>h.elim
 | true :: _,[],_,h,_,_,h1,_=>by simp at h1
 | false :: _,[],_,h,_,_,h1,_=>by simp at h1
 | true :: _,_ :: _,[],h,_,_,_,_=>h.elim
 | false :: _,_ :: _,[],h,_,_,_,_=>h.elim
 | [],[],_ :: _,h,_,_,_,_=>h.elim
theorem itemsBut.cons {P:Program} {ops:Array Oper} {items:List QItem} {tmps:Array Value} {w:World} {bs:List Bool} {o:Oper} {l:List Oper} {q:QItem} {qs:List QItem} (h:itemOb P ops ops.toList items tmps w o q) (h':itemsBut P ops items tmps w bs l qs):itemsBut P ops items tmps w (true :: bs) (o :: l) (q :: qs):=⟨h,h'⟩
theorem itemsBut.skip {P:Program} {ops:Array Oper} {items:List QItem} {tmps:Array Value} {w:World} {bs:List Bool} {o:Oper} {l:List Oper} {q:QItem} {qs:List QItem} (h':itemsBut P ops items tmps w bs l qs):itemsBut P ops items tmps w (false :: bs) (o :: l) (q :: qs):=h'
theorem wpAny_fails {P:Program} {ops:Array Oper} {Q:Exit→Act→World→Prop} {N k:Nat} {J:Array Bool→Act→World→Prop} (hk:k<ops.size) (hls:∀ listed a W,J listed a W→listed.size=ops.size)
  (hstep:∀ listed a W i (o:Oper),J listed a W→listed.getD k false=false→ops[i]? = some o→(∀ e ∈ o.after,Region.binds .any e=true→listed.getD e.on false=true)→wpOp P ops Q i (fun a W=>i≠k∧J (listed.setIfInBounds i true) a W) a W) (hfit:quietFit ops N=true) :
  ∀ (fuel:Nat) (listed:Array Bool) (a:Act) (W:World),J listed a W→listed.getD k false=false→(listed.toList.count false≤fuel)→wpAny P .any ops Q fuel listed a W:=by
 intro fuel
 induction fuel with
 | zero =>
  intro listed a W hJ h2 hc
  exfalso
  have hlt:k<listed.size:=by rw [hls _ _ _ hJ];exact hk
  rw [Array.getD_eq_getD_getElem?,Array.getElem?_eq_getElem hlt] at h2
  have:false ∈ listed.toList:=by
   have h3:listed[k]=false:=h2
   rw [← h3];simp
  have:=List.count_pos_iff.2 this
  omega
 | succ fuel ih =>
  intro listed a W hJ h2 hc
  refine ⟨fun hr => ?_,fun i hi => ?_⟩
  ·exfalso
   have key:∀ i,i≤k→listed.getD i false=true:=by
    intro i
    induction i using Nat.strongRecOn with
    | _ i ih2 =>
     intro hik
     rcases hcc:listed.getD i false with _ | _
     ·exfalso
      have hm:i ∈ Region.ready .any ops listed:=by
       refine mem_ready.2 ⟨?_,ops[i]'(by omega),by simp [show i<ops.size by omega],fun e he hb => ?_⟩
       ·rw [Array.getD_eq_getD_getElem?] at hcc ⊢
        have:i<listed.size:=by rw [hls _ _ _ hJ];omega
        rw [Array.getElem?_eq_getElem this] at hcc ⊢
        exact hcc
       ·have h3:=quietFit.edge hfit (i:=i) (o:=ops[i]'(by omega)) (by simp [show i<ops.size by omega]) he hb
        exact ih2 e.on h3 (by omega)
      rw [hr] at hm;cases hm
     ·rfl
   rw [key k (Nat.le_refl _)] at h2;cases h2
  ·have hnl:=ready_listed hi (hls _ _ _ hJ)
   obtain ⟨h4,o,ho,hdep⟩:=mem_ready.1 hi
   refine wpOp_mono (fun a' W' hJ'=>ih _ a' W' hJ'.2 ?_ ?_) (hstep listed a W i o hJ h2 ho hdep)
   ·rw [Array.getD_eq_getD_getElem?] at h2 ⊢
    rw [Array.getElem?_setIfInBounds_ne hJ'.1];exact h2
   ·have hlt:i<listed.size:=by rw [hls _ _ _ hJ];exact (Array.getElem?_eq_some_iff.1 ho).1
    rw [Array.getD_eq_getD_getElem?,Array.getElem?_eq_getElem hlt] at h4
    have h5:listed.toList[i]'(by simpa using hlt)=false:=by simpa using h4
    rw [Array.toList_setIfInBounds]
    have h6:=List.count_set (l:=listed.toList) (a:=true) (b:=false) (i:=i) (by simpa using hlt)
    have h7:0<listed.toList.count false:=List.count_pos_iff.2 (by rw [← h5];exact List.getElem_mem _)
    rw [h6,h5]
    show List.count false listed.toList - 1+0≤fuel
    omega
/-- Operation k waits for no operation that panics; each that is no item waits for it. -/
def failFit (ops:Array Oper) (k:Nat) (bs:List Bool):Bool :=
 decide (k<ops.size) && decide (bs.length=ops.size) && (List.range ops.size).all fun i=>bs.getD i false && decide (i≠k) || decide (i=k) || (match ops[i]? with | some o=>o.after.any fun e=>decide (e.on=k) && Region.binds .any e | none=>true)
theorem wp_region_fails {P:Program} {ops:Array Oper} {Q:Exit→Act→World→Prop} {id:Nat} {tmps:Array Value} {ds:List Deferred} {w:World} (k:Nat) (bs:List Bool) (items:List QItem) (F:Ending→World→Prop) (hm:P.follows .mixedOrders=true)
  (hfit:(failFit ops k bs && quietFit ops tmps.size)=true) (hmono:itemsMono items) (hall:itemsBut P ops items tmps w bs ops.toList items) (hf:∀ o,ops[k]? = some o→failOb P ops items tmps w o F)
  (hQ:∀ e W,F e W→∃ chain,e = .panicked chain∧∀ a:Act,a.defers=ds→Q (.panic chain) a W):(Code.region id ops true).wp P Q ⟨tmps,ds⟩ w:=by
 simp only [Bool.and_eq_true] at hfit
 obtain ⟨hf1,hfit⟩:=hfit
 unfold failFit at hf1
 simp only [Bool.and_eq_true,decide_eq_true_eq] at hf1
 obtain ⟨⟨hk,hbl⟩,hw⟩:=hf1
 rw [List.all_eq_true] at hw
 refine wp_region_any hm (wpAny_fails (N:=tmps.size) (k:=k) (J:=QuietAt ops (itemSp items) tmps ds w) hk (fun _ _ _ h=>h.lsize) ?_ hfit ops.size _ _ _ ⟨Below.drew (Below.refl _ _),rfl,rfl,by simp,?_,fun _ _=>rfl⟩ ?_ ?_)
 ·intro listed a W i o hJ hk0 ho hdep
  have hi:i<ops.size:=(Array.getElem?_eq_some_iff.1 ho).1
  by_cases hik:i=k
  ·subst hik
   have hob:=hf o ho a.eval W hJ.below (fun _=>rfl) (fun _=>rfl) (fun _=>rfl)
    (fun t ht=>by rw [eval_tmp,Array.getD_eq_getD_getElem?,Array.getD_eq_getD_getElem?,hJ.same t (fun j p hp hl=>foreign_mem ht (by have:=(Array.getElem?_eq_some_iff.1 hp);obtain ⟨h1,h2⟩:=this;rw [← h2];simp))])
    (depsSay_of _ fun e he hb p t hp ht=>hJ.done e.on p t hp ht (hdep e (by simpa using he) hb))
   unfold wpOp
   rw [ho]
   simp only
   rw [yielded_by,if_pos hob.1]
   refine .inl ?_
   have h2:=hob.2
   unfold Oper.wp
   generalize (execOp a.eval o).run P W=r at h2 ⊢
   cases r with
   | halt x w'=>exact h2.elim
   | ok n w' =>
    cases n with
    | enter f args =>
     refine Calls.mono h2 fun e w'' h => ?_
     obtain ⟨chain,rfl,hq⟩:=hQ _ _ h
     exact hq a hJ.defers
    | _=>exact h2.elim
  ·have h1:=hw i (List.mem_range.2 hi)
   simp only [ho,Bool.or_eq_true,Bool.and_eq_true,decide_eq_true_eq] at h1
   rcases h1 with (⟨h1,_⟩ | h1) | h1
   ·have hb:bs[i]? = some true:=by
     rw [List.getD_eq_getElem?_getD] at h1
     cases e:bs[i]? with
     | none=>rw [e] at h1;cases h1
     | some b=>rw [e] at h1;cases b with
      | true=>rfl
      | false=>cases h1
    obtain ⟨q,hq,hob⟩:=itemsBut.get _ _ _ hall i o (by simpa using ho) hb
    have e:itemSp items i=q.sp:=by unfold itemSp;rw [hq]
    refine wpOp_mono (fun a' W' h=>⟨hik,h⟩) (quietAt_step hmono.get hfit (fl:=ops.toList) ?_ (fun j p hp _=>by obtain ⟨h1,h2⟩:=Array.getElem?_eq_some_iff.1 hp;rw [← h2];simp) ho hJ hdep)
    intro ρ X h1 h2 h3 h4 h5 h6
    rw [e];exact hob ρ X h1 h2 h3 h4 h5 h6
   ·exact absurd h1 hik
   ·exfalso
    obtain ⟨e,he,h3⟩:=Array.any_eq_true'.1 h1
    simp only [Bool.and_eq_true,decide_eq_true_eq] at h3
    have:=hdep e he h3.2
    rw [h3.1,hk0] at this;cases this
 ·intro i o t _ _ h
  rw [Array.getD_eq_getD_getElem?] at h
  by_cases hi:i<ops.size <;> simp [hi] at h
 ·rw [Array.getD_eq_getD_getElem?]
  simp [hk]
 ·simp
end Go.Proofs.YtjpkfjmmmmfeeaaGreatDoor
namespace Go.Proofs.YtjpkfjmmmmfeeaaGreatDoor
open Go Go.RowKit Go.Lib Go.Shelf
attribute [local go_sem] normalQ
structure SqrtZ (j p:Nat) (s:Iv) (a:Frm):Prop where
 r:RangeF a
 j0:0<j
 jp:j+p+p+1≤200
 p30:p≤30
 da:IDig j (rangeI a)
 ok:(rangeI a).Ok
 pos:0≤(rangeI a).lo
 root:SqrtI (rangeI a) (TT p) s
 z:s.hi=0
theorem asqrtz1 {j p:Nat} {s:Iv} {a:Frm} (h:SqrtZ j p s a) (oa:a.Ok) (pa:Option Addr) (ca:Nat) (ba bn:Nat) (w:World) (ra:Row w ba (.cells #[.string (S a.c.num),.string (S (a.c.den:Int)),.slice pa a.t.length ca,.string (S a.r.num),.string (S (a.r.den:Int))] 30)) (rn:Row w bn (.cells #[.int .i64 (p:Int)] 3)) (hpa:TAt 51 w pa a.t) (he:Env w):Calls Tryz.prog 82 #[.pointer (some ⟨ba,0,none⟩),.pointer (some ⟨bn,0,none⟩)] w (afIs (fun g=>constF 0=g) w):=by
 have hB:Below w.heap.size w w:=Below.refl _ _
 have HPa:=Lib.hid hpa
 have FN:=fnum
 have MR:=fun W (h1:TAt 51 W pa a.t) (H:Env W)=>arange oa h.r (Nat.le_trans oa.few (by decide)) pa ca W h1 H
 have MI:=fun W=>amustI (rangeI a) W
 have MI2:=fun W=>amustI s W
 have MQ:=fun W (H:Env W)=>esqrt_is h.root h.da h.j0 h.ok h.p30 h.jp h.pos W H
 have MH:=fun W (H:Env W)=>nsign (show QDig 200 s.hi by rw [h.z];exact dig0) W H
 have gh:cmpQ s.hi 0=0:=cmpQ_eq.2 h.z
 have M0:=fun W (H:Env W)=>awhole (n:=0) (by decide) whole0 W H
 have MK:=fun W (H:Env W)=>aconst (q:=0) dig0 W H
 unfold constF afIs
 unfold IvOk at MR MQ
 unfold IvIs at MI MI2
 unfold CmpOk at MH
 unfold FV I at *
 unfold QIs at M0
 unfold ConstIs at MK
 rw [gh] at MH
 clear gh
 generalize (rangeI a).lo=il at *
 generalize (rangeI a).hi=ih at *
 generalize s.lo=pl at *
 generalize s.hi=ph at *
 unfold Q at *
 generalize (0:Rat)=z at *
 clear hpa h oa
 obtain ⟨sa,ca0,ca1,ca2,ca3,ca4⟩:=RF5 ra
 obtain ⟨sn,cn0⟩:=RF1 rn
 go_enter Tryz.func82, Tryz.ntmps82
 go_wp2_with fail
 have da_o:ba<w.heap.size:=by omega
 have dn_o:bn<w.heap.size:=by omega
 have d0_o:w.heap.size≤w.heap.size:=by have:=hB.size;omega
 have sB:=hB.size
 refine wp_cut (fun X=>Below w.heap.size w X∧Row X ba (.cells #[.string (S a.c.num),.string (S (a.c.den:Int)),.slice pa a.t.length ca,.string (S a.r.num),.string (S (a.r.den:Int))] 30)∧Row X bn (.cells #[.int .i64 (p:Int)] 3)∧Row X w.heap.size (.cells #[.string ⟨#[]⟩,.string ⟨#[]⟩,.slice none 0 0,.string ⟨#[]⟩,.string ⟨#[]⟩] 30)) ⟨BW,RW8,RW8,RW8⟩ ?_
 clear ra
 clear sa ca0 ca1 ca2 ca3 ca4
 clear rn
 clear sn cn0
 clear hB sB
 rintro V1 ⟨hB,ra,rn,ro⟩
 obtain ⟨sa,ca0,ca1,ca2,ca3,ca4⟩:=RF5 ra
 obtain ⟨sn,cn0⟩:=RF1 rn
 obtain ⟨so,co0,co1,co2,co3,co4,fo0,fo1,fo2,fo3,fo4⟩:=RFz5 ro
 have da_r:=ra.1
 have dn_r:=rn.1
 have do_r:=ro.1
 have d0_r:=hB.size
 refine wp_region_items 11 [.val (.agg #[.string (S a.c.num),.string (S (a.c.den:Int)),.slice pa a.t.length ca,.string (S a.r.num),.string (S (a.r.den:Int))]),.val (.tuple #[.agg #[.string (S il.num),.string (S (il.den:Int)),.string (S ih.num),.string (S (ih.den:Int))],.int .i64 0]),.val (.agg #[.string (S il.num),.string (S (il.den:Int)),.string (S ih.num),.string (S (ih.den:Int))]),.val (.int .i64 0),.val (.agg #[.string (S il.num),.string (S (il.den:Int)),.string (S ih.num),.string (S (ih.den:Int))]),.val (.int .i64 (p:Int)),.val (.tuple #[.agg #[.string (S pl.num),.string (S (pl.den:Int)),.string (S ph.num),.string (S (ph.den:Int))],.int .i64 0]),.val (.agg #[.string (S pl.num),.string (S (pl.den:Int)),.string (S ph.num),.string (S (ph.den:Int))]),.val (.int .i64 0),.val (.agg #[.string (S pl.num),.string (S (pl.den:Int)),.string (S ph.num),.string (S (ph.den:Int))]),.say (fresh _ (.cells #[.string ⟨#[]⟩,.string ⟨#[]⟩,.string ⟨#[]⟩,.string ⟨#[]⟩] 53))] (by kernel_rfl) (by kernel_rfl) ⟨fresh_mono _ _,trivial⟩ (allItems.cons (qi1 fun X h=>RF5 (Row.below ra h)) (allItems.cons (qi2 fun X h=>MR X (UAt.below HPa.out (hB.trans (h.mono hB.size))) (he.below (hB.trans (h.mono hB.size)))) (allItems.cons qi0 (allItems.cons qi0 (allItems.cons (qi2 fun X h=>MI X) (allItems.cons (qi1 fun X h=>RF1 (Row.below rn h)) (allItems.cons (qi2 fun X h=>MQ X (he.below (hB.trans (h.mono hB.size)))) (allItems.cons qi0 (allItems.cons qi0 (allItems.cons (qi2 fun X h=>MI2 X) (allItems.cons qia trivial))))))))))) ?_
 rintro W h1
 have stp:=St3 hB h1 ra rn ro;clear hB h1 ra sa ca0 ca1 ca2 ca3 ca4 rn sn cn0 ro so co0 co1 co2 co3 co4 fo0 fo1 fo2 fo3 fo4
 obtain ⟨hB,ra,rn,ro⟩:=stp
 obtain ⟨sa,ca0,ca1,ca2,ca3,ca4⟩:=RF5 ra
 obtain ⟨sn,cn0⟩:=RF1 rn
 obtain ⟨so,co0,co1,co2,co3,co4,fo0,fo1,fo2,fo3,fo4⟩:=RFz5 ro
 simp only [setItems,List.setIfInBounds_toArray,List.set_cons_succ,List.set_cons_zero,List.take_succ_cons,List.take_zero,List.drop_succ_cons,List.drop_zero]
 rintro _ ⟨pr,rfl,hr,rr⟩
 replace da_r:=Nat.lt_of_lt_of_le da_r hr
 replace dn_r:=Nat.lt_of_lt_of_le dn_r hr
 replace do_r:=Nat.lt_of_lt_of_le do_r hr
 replace d0_r:=Nat.le_trans d0_r hr
 obtain ⟨sr,cr0,cr1,cr2,cr3,fr0,fr1,fr2,fr3⟩:=RFz4 rr
 go_upto_region 2 with fail
 have sB:=hB.size
 refine wp_cut (fun X=>Below w.heap.size w X∧Row X ba (.cells #[.string (S a.c.num),.string (S (a.c.den:Int)),.slice pa a.t.length ca,.string (S a.r.num),.string (S (a.r.den:Int))] 30)∧Row X w.heap.size (.cells #[.string ⟨#[]⟩,.string ⟨#[]⟩,.slice none 0 0,.string ⟨#[]⟩,.string ⟨#[]⟩] 30)∧Row X pr (.cells #[.string (S pl.num),.string (S (pl.den:Int)),.string (S ph.num),.string (S (ph.den:Int))] 53)) ⟨BW,RW8,RW8,RW8⟩ ?_
 clear ra
 clear sa ca0 ca1 ca2 ca3 ca4
 clear rn
 clear sn cn0
 clear ro
 clear so co0 co1 co2 co3 co4 fo0 fo1 fo2 fo3 fo4
 clear rr
 clear sr cr0 cr1 cr2 cr3 fr0 fr1 fr2 fr3
 clear hB sB
 rintro V2 ⟨hB,ra,ro,rr⟩
 obtain ⟨sa,ca0,ca1,ca2,ca3,ca4⟩:=RF5 ra
 obtain ⟨so,co0,co1,co2,co3,co4,fo0,fo1,fo2,fo3,fo4⟩:=RFz5 ro
 obtain ⟨sr,cr0,cr1,cr2,cr3,fr0,fr1,fr2,fr3⟩:=RFz4 rr
 have l_a:=ra.1
 have l_o:=ro.1
 have l_r:=rr.1
 have l_W:=hB.size
 refine Code.wp_mono (Q:=fun ex ac wx=>ex = .normal∧∃ (vx vy:Nat) (u7 u8 u9 u10 u11 u12 u13 u14 u15 u16 u17 u18 u19 u20 u21 u22:Value),ac={ tmps:=#[.pointer (some ⟨ba,0,none⟩),.pointer (some ⟨bn,0,none⟩),.pointer (some ⟨w.heap.size,0,none⟩),.pointer (some ⟨pr,0,none⟩),.pointer (some ⟨vx,0,none⟩),.pointer (some ⟨vy,0,none⟩),undef,u7,u8,u9,u10,u11,u12,u13,u14,u15,u16,u17,u18,u19,u20,u21,u22,undef,undef,undef,undef,undef,undef,undef,undef,undef,undef,undef,undef,undef,undef,undef,undef,undef,undef,undef,undef,undef,undef,undef],defers:=[] }∧Below w.heap.size w wx∧Row wx ba (.cells #[.string (S a.c.num),.string (S (a.c.den:Int)),.slice pa a.t.length ca,.string (S a.r.num),.string (S (a.r.den:Int))] 30)∧Row wx w.heap.size (.cells #[.string ⟨#[]⟩,.string ⟨#[]⟩,.slice none 0 0,.string ⟨#[]⟩,.string ⟨#[]⟩] 30)∧Row wx pr (.cells #[.string (S pl.num),.string (S (pl.den:Int)),.string (S ph.num),.string (S (ph.den:Int))] 53)∧Row wx vx (.cells #[.string (S pl.num),.string (S (pl.den:Int))] 76)∧V2.heap.size≤vx∧Row wx vy (.cells #[.string (S ph.num),.string (S (ph.den:Int))] 76)∧V2.heap.size≤vy∧vx≠vy) ?rest ?first
 case first =>
  have sB:=hB.size
  have KK:∀ X,Row X pr (.cells #[.string (S pl.num),.string (S (pl.den:Int)),.string (S ph.num),.string (S (ph.den:Int))] 53)→(X.cell? ⟨pr,0,none⟩=some (.string (S pl.num))∧X.cell? ⟨pr,1,none⟩=some (.string (S (pl.den:Int)))∧X.cell? ⟨pr,2,none⟩=some (.string (S ph.num))∧X.cell? ⟨pr,3,none⟩=some (.string (S (ph.den:Int)))):=fun X hr=>⟨Row.cell_at hr 0 rfl,Row.cell_at hr 1 rfl,Row.cell_at hr 2 rfl,Row.cell_at hr 3 rfl⟩
  clear sa ca0 ca1 ca2 ca3 ca4
  clear so co0 co1 co2 co3 co4 fo0 fo1 fo2 fo3 fo4
  clear sr cr0 cr1 cr2 cr3 fr0 fr1 fr2 fr3
  go_region_held3 (fun X=>X.cell? ⟨pr,0,none⟩=some (.string (S pl.num))∧X.cell? ⟨pr,1,none⟩=some (.string (S (pl.den:Int)))∧X.cell? ⟨pr,2,none⟩=some (.string (S ph.num))∧X.cell? ⟨pr,3,none⟩=some (.string (S (ph.den:Int)))) (first | exact KK _ RW8) (first
      | fail)
  all_goals (refine ⟨rfl,_,_,_,_,_,_,_,_,_,_,_,_,_,_,_,_,_,_,rfl,?_,?_,?_,?_,?_,?_,?_,?_,?_⟩)
  all_goals first | omega | ((repeat (first | (with_reducible assumption) | (with_reducible exact Below.refl _ _) | (with_reducible refine Below.drew ?_) | (with_reducible refine below_drewN ?_ _) | (with_reducible refine Below.alloc ?_ (by first | omega | (simp;done) | (simp;omega)) _) | (with_reducible refine Below.setCell ?_ (by first | omega | (simp;done) | (simp;omega)) _)));done) | ((repeat (first | (with_reducible assumption) | (with_reducible exact row_new' (by first | omega | (simp;done) | (simp;omega))) | (with_reducible refine Row.drew ?_) | (with_reducible refine Row.drewN ?_ _) | (with_reducible refine Row.alloc ?_ _) | (with_reducible apply Row.set5) | (with_reducible apply Row.set2) | (with_reducible refine Row.set_other ?_ _ (by first | omega | (simp;done) | (simp;omega)))));done) | (simp;done) | (simp;omega)
 case rest =>
  clear hB ra ro rr
  clear sa ca0 ca1 ca2 ca3 ca4
  clear so co0 co1 co2 co3 co4 fo0 fo1 fo2 fo3 fo4
  clear sr cr0 cr1 cr2 cr3 fr0 fr1 fr2 fr3
  rintro ex ac wx ⟨rfl,vx,vy,u7,u8,u9,u10,u11,u12,u13,u14,u15,u16,u17,u18,u19,u20,u21,u22,rfl,hB,ra,ro,rr,rx,hvx,ry,hvy,nx_y⟩
  have da_x:ba<vx:=by omega
  have da_y:ba<vy:=by omega
  have do_x:w.heap.size<vx:=by omega
  have do_y:w.heap.size<vy:=by omega
  have dr_x:pr<vx:=by omega
  have dr_y:pr<vy:=by omega
  have d0_x:w.heap.size≤vx:=by omega
  have d0_y:w.heap.size≤vy:=by omega
  obtain ⟨sa,ca0,ca1,ca2,ca3,ca4⟩:=RF5 ra
  obtain ⟨so,co0,co1,co2,co3,co4,fo0,fo1,fo2,fo3,fo4⟩:=RFz5 ro
  obtain ⟨sr,cr0,cr1,cr2,cr3,fr0,fr1,fr2,fr3⟩:=RFz4 rr
  obtain ⟨sx,cx0,cx1⟩:=RF2 rx
  obtain ⟨sy,cy0,cy1⟩:=RF2 ry
  go_wp2_with fail
  clear rr
  clear sr cr0 cr1 cr2 cr3 fr0 fr1 fr2 fr3
  refine (MH _ (he.below hB)).mono ?_
  rintro e W4 ⟨rfl,h1⟩
  have stp:=St4 hB h1 ra ro rx ry;clear hB h1 ra sa ca0 ca1 ca2 ca3 ca4 ro so co0 co1 co2 co3 co4 fo0 fo1 fo2 fo3 fo4 rx sx cx0 cx1 ry sy cy0 cy1
  obtain ⟨hB,ra,ro,rx,ry⟩:=stp
  obtain ⟨sa,ca0,ca1,ca2,ca3,ca4⟩:=RF5 ra
  obtain ⟨so,co0,co1,co2,co3,co4,fo0,fo1,fo2,fo3,fo4⟩:=RFz5 ro
  obtain ⟨sx,cx0,cx1⟩:=RF2 rx
  obtain ⟨sy,cy0,cy1⟩:=RF2 ry
  go_wp2_with fail
  refine (M0 _ (he.below hB)).mono ?_
  rintro e W5 ⟨rfl,h1⟩
  have stp:=St4 hB h1 ra ro rx ry;clear hB h1 ra sa ca0 ca1 ca2 ca3 ca4 ro so co0 co1 co2 co3 co4 fo0 fo1 fo2 fo3 fo4 rx sx cx0 cx1 ry sy cy0 cy1
  obtain ⟨hB,ra,ro,rx,ry⟩:=stp
  obtain ⟨sa,ca0,ca1,ca2,ca3,ca4⟩:=RF5 ra
  obtain ⟨so,co0,co1,co2,co3,co4,fo0,fo1,fo2,fo3,fo4⟩:=RFz5 ro
  obtain ⟨sx,cx0,cx1⟩:=RF2 rx
  obtain ⟨sy,cy0,cy1⟩:=RF2 ry
  go_wp2_with fail
  refine (MK _ (he.below hB)).mono ?_
  rintro e W6 ⟨rfl,h1⟩
  have stp:=St4 hB h1 ra ro rx ry;clear hB h1 ra sa ca0 ca1 ca2 ca3 ca4 ro so co0 co1 co2 co3 co4 fo0 fo1 fo2 fo3 fo4 rx sx cx0 cx1 ry sy cy0 cy1
  obtain ⟨hB,ra,ro,rx,ry⟩:=stp
  obtain ⟨sa,ca0,ca1,ca2,ca3,ca4⟩:=RF5 ra
  obtain ⟨so,co0,co1,co2,co3,co4,fo0,fo1,fo2,fo3,fo4⟩:=RFz5 ro
  obtain ⟨sx,cx0,cx1⟩:=RF2 rx
  obtain ⟨sy,cy0,cy1⟩:=RF2 ry
  go_wp2_with fail
  have sB:=hB.size
  refine post_cut (fun X=>Below w.heap.size w X∧Row X w.heap.size (.cells #[.string (S z.num),.string (S (z.den:Int)),.slice none 0 0,.string (S z.num),.string (S (z.den:Int))] 30)) ⟨BW,RW8⟩ ?_
  clear ra
  clear sa ca0 ca1 ca2 ca3 ca4
  clear ro
  clear so co0 co1 co2 co3 co4 fo0 fo1 fo2 fo3 fo4
  clear rx
  clear sx cx0 cx1
  clear ry
  clear sy cy0 cy1
  clear hB sB
  rintro V7 ⟨hB,ro⟩
  obtain ⟨so,co0,co1,co2,co3,co4,fo0,fo1,fo2,fo3,fo4⟩:=RFz5 ro
  refine bodyPost_ret (v := .agg #[.string (S z.num),.string (S (z.den:Int)),.slice none 0 0,.string (S z.num),.string (S (z.den:Int))]) ?res rfl ⟨⟨z,[],z⟩,none,0,rfl,UAt.nil _ _,rfl,hB⟩
  case res=>simp [results,Tryz.results82, go_sem,co0,co1,co2,co3,co4]
theorem asqrtz {j p:Nat} {s:Iv} {a:Frm} (h:SqrtZ j p s a) (oa:a.Ok) (pa:Option Addr) (ca:Nat) (w:World) (hpa:TAt 51 w pa a.t) (he:Env w):Calls Tryz.prog 32 #[FV a pa ca,.int .i64 (p:Int)] w (FRes (constF 0) w):=by
 have hB:Below w.heap.size w w:=Below.refl _ _
 have HPa:=Lib.hid hpa
 have da:=h.r.rad.dig
 have CF:=fun s W (r:Row W s (.cells #[.string (S a.c.num),.string (S (a.c.den:Int)),.slice pa a.t.length ca,.string (S a.r.num),.string (S (a.r.den:Int))] 30)) (h1:TAt 51 W pa a.t) (H:Env W)=>fcontains1 103 (enters_of Tryz.func103 (by kernel_rfl) rfl) s a pa ca W r (fun X hX=>afbad oa da pa ca X (UAt.below h1 hX) (H.below hX))
 have CR:=fun ba bn W (ra:Row W ba (.cells #[.string (S a.c.num),.string (S (a.c.den:Int)),.slice pa a.t.length ca,.string (S a.r.num),.string (S (a.r.den:Int))] 30)) (rn:Row W bn (.cells #[.int .i64 (p:Int)] 3)) (h1:TAt 51 W pa a.t) (H:Env W)=>asqrtz1 h oa pa ca ba bn W ra rn h1 H
 generalize constF 0=G at *
 unfold FRes
 unfold FV
 clear hpa h oa da
 go_enter Tryz.func32, Tryz.ntmps32
 go_wp2_with fail
 have d0_o:w.heap.size≤w.heap.size+1+1:=by have:=hB.size;omega
 have sB:=hB.size
 refine world_cut (fun X=>Below w.heap.size w X∧Row X w.heap.size (.cells #[.string (S a.c.num),.string (S (a.c.den:Int)),.slice pa a.t.length ca,.string (S a.r.num),.string (S (a.r.den:Int))] 30)∧Row X (w.heap.size+1) (.cells #[.int .i64 (p:Int)] 3)∧Row X (w.heap.size+1+1) (.cells #[.string ⟨#[]⟩,.string ⟨#[]⟩,.slice none 0 0,.string ⟨#[]⟩,.string ⟨#[]⟩] 30)∧Row X (w.heap.size+1+1+1) (.cells #[.string (S a.c.num),.string (S (a.c.den:Int)),.slice pa a.t.length ca,.string (S a.r.num),.string (S (a.r.den:Int))] 30)) ⟨BW,RW8,RW8,RW8,RW8⟩ ?_
 clear hB sB
 rintro V1 ⟨hB,ra,rn,ro,rb3⟩
 obtain ⟨sa,ca0,ca1,ca2,ca3,ca4⟩:=RF5 ra
 obtain ⟨sn,cn0⟩:=RF1 rn
 obtain ⟨so,co0,co1,co2,co3,co4,fo0,fo1,fo2,fo3,fo4⟩:=RFz5 ro
 obtain ⟨sb3,cb30,cb31,cb32,cb33,cb34⟩:=RF5 rb3
 refine (afcompute_ok 82 _ _ _ (fun g=>G=g) _ (enters_of Tryz.func82 (by kernel_rfl) rfl) (fun X h=>CF _ _ (Row.below rb3 h) (UAt.below HPa.out (hB.trans (h.mono hB.size))) (he.below (hB.trans (h.mono hB.size)))) (fun X h=>CR _ _ _ (Row.below ra h) (Row.below rn h) (UAt.below HPa.out (hB.trans (h.mono hB.size))) (he.below (hB.trans (h.mono hB.size))))).mono ?_
 rintro e W2 ⟨_,pg,cg,rfl,hT,rfl,h1⟩
 have stp:=St4 hB h1 ra rn ro rb3;clear hB h1 ra sa ca0 ca1 ca2 ca3 ca4 rn sn cn0 ro so co0 co1 co2 co3 co4 fo0 fo1 fo2 fo3 fo4 rb3 sb3 cb30 cb31 cb32 cb33 cb34
 obtain ⟨hB,ra,rn,ro,rb3⟩:=stp
 obtain ⟨sa,ca0,ca1,ca2,ca3,ca4⟩:=RF5 ra
 obtain ⟨sn,cn0⟩:=RF1 rn
 obtain ⟨so,co0,co1,co2,co3,co4,fo0,fo1,fo2,fo3,fo4⟩:=RFz5 ro
 obtain ⟨sb3,cb30,cb31,cb32,cb33,cb34⟩:=RF5 rb3
 unfold FV
 go_wp2_with fail
 have sB:=hB.size
 refine post_cut (fun X=>Below w.heap.size w X∧Row X (w.heap.size+1+1) (.cells #[.string (S G.c.num),.string (S (G.c.den:Int)),.slice pg G.t.length cg,.string (S G.r.num),.string (S (G.r.den:Int))] 30)∧TAt 51 X pg G.t) ⟨BW,RW8,TW⟩ ?_
 clear ra
 clear sa ca0 ca1 ca2 ca3 ca4
 clear rn
 clear sn cn0
 clear ro
 clear so co0 co1 co2 co3 co4 fo0 fo1 fo2 fo3 fo4
 clear rb3
 clear sb3 cb30 cb31 cb32 cb33 cb34
 clear hB sB hT
 rintro V3 ⟨hB,ro,hT⟩
 obtain ⟨so,co0,co1,co2,co3,co4,fo0,fo1,fo2,fo3,fo4⟩:=RFz5 ro
 refine bodyPost_ret (v := .tuple #[.agg #[.string (S G.c.num),.string (S (G.c.den:Int)),.slice pg G.t.length cg,.string (S G.r.num),.string (S (G.r.den:Int))],.int .i64 0]) ?res rfl ⟨pg,cg,hT,rfl,hB⟩
 case res=>simp [results,Tryz.results32, go_sem,co0,co1,co2,co3,co4]
end Go.Proofs.YtjpkfjmmmmfeeaaGreatDoor
namespace Go.Proofs.YtjpkfjmmmmfeeaaGreatDoor
open Go Go.RowKit Go.Lib Go.Shelf
attribute [local go_sem] normalQ
theorem amustI_bad {a0 a1:Addr} (z1 z2 z3 z4:ByteArray) (w:World) (he:EnvA a0 a1 w):Calls Tryz.prog 83 #[.agg #[.string z1,.string z2,.string z3,.string z4],.int .i64 50] w (FailsOk a1 w):=by
 have hB:Below w.heap.size w w:=Below.refl _ _
 have MF:=fun W (H:EnvA a0 a1 W)=>acheck_false W H
 unfold FailsOk at MF
 unfold FailsOk
 go_enter Tryz.func83, Tryz.ntmps83
 go_wp2_with fail
 have d0_o:w.heap.size≤w.heap.size+1:=by have:=hB.size;omega
 have sB:=hB.size
 refine world_cut (fun X=>Below w.heap.size w X∧Row X w.heap.size (.cells #[.string z1,.string z2,.string z3,.string z4] 53)∧Row X (w.heap.size+1) (.cells #[.string ⟨#[]⟩,.string ⟨#[]⟩,.string ⟨#[]⟩,.string ⟨#[]⟩] 53)) ⟨BW,RW8,RW8⟩ ?_
 clear hB sB
 rintro V1 ⟨hB,rx,ro⟩
 obtain ⟨sx,cx0,cx1,cx2,cx3⟩:=RF4 rx
 obtain ⟨so,co0,co1,co2,co3,fo0,fo1,fo2,fo3⟩:=RFz4 ro
 refine (MF _ (he.below hB)).mono ?_
 rintro e W2 ⟨rfl,h1⟩
 exact ⟨rfl,rfl,hB.trans (h1.mono hB.size)⟩
theorem asqrt1_err {a0 a1:Addr} {p:Nat} {a:Frm} (rF:RangeF a) (dI:IDig 200 (rangeI a)) (okI:(rangeI a).Ok) (oa:a.Ok) (hp:p≤30) (hneg:(rangeI a).lo<0) (pa:Option Addr) (ca:Nat) (ba bn:Nat) (w:World) (ra:Row w ba (.cells #[.string (S a.c.num),.string (S (a.c.den:Int)),.slice pa a.t.length ca,.string (S a.r.num),.string (S (a.r.den:Int))] 30)) (rn:Row w bn (.cells #[.int .i64 (p:Int)] 3)) (hpa:TAt 51 w pa a.t) (he:EnvA a0 a1 w):Calls Tryz.prog 82 #[.pointer (some ⟨ba,0,none⟩),.pointer (some ⟨bn,0,none⟩)] w (FailsOk a1 w):=by
 have hB:Below w.heap.size w w:=Below.refl _ _
 have HPa:=Lib.hid hpa
 have MR:=fun W (h1:TAt 51 W pa a.t) (H:Env W)=>arange oa rF (Nat.le_trans oa.few (by decide)) pa ca W h1 H
 have MI:=fun W=>amustI (rangeI a) W
 have MQ:=fun W (H:EnvE a0 W)=>esqrt_err dI okI hp (Nat.le_refl _) hneg W H
 have MB:=fun W (H:EnvA a0 a1 W)=>amustI_bad ⟨#[]⟩ ⟨#[]⟩ ⟨#[]⟩ ⟨#[]⟩ W H
 unfold IvOk at MR
 unfold ivErr at MQ
 unfold IvIs at MI
 unfold FV I at *
 generalize (rangeI a).lo=il at *
 generalize (rangeI a).hi=ih at *
 clear hpa rF dI okI oa hneg hp
 obtain ⟨sa,ca0,ca1,ca2,ca3,ca4⟩:=RF5 ra
 obtain ⟨sn,cn0⟩:=RF1 rn
 go_enter Tryz.func82, Tryz.ntmps82
 go_upto_region 1 with fail
 have da_o:ba<w.heap.size:=by omega
 have dn_o:bn<w.heap.size:=by omega
 have d0_o:w.heap.size≤w.heap.size:=by have:=hB.size;omega
 have sB:=hB.size
 refine wp_cut (fun X=>Below w.heap.size w X∧Row X ba (.cells #[.string (S a.c.num),.string (S (a.c.den:Int)),.slice pa a.t.length ca,.string (S a.r.num),.string (S (a.r.den:Int))] 30)∧Row X bn (.cells #[.int .i64 (p:Int)] 3)∧Row X w.heap.size (.cells #[.string ⟨#[]⟩,.string ⟨#[]⟩,.slice none 0 0,.string ⟨#[]⟩,.string ⟨#[]⟩] 30)) ⟨BW,RW8,RW8,RW8⟩ ?_
 clear ra
 clear sa ca0 ca1 ca2 ca3 ca4
 clear rn
 clear sn cn0
 clear hB sB
 rintro V1 ⟨hB,ra,rn,ro⟩
 obtain ⟨sa,ca0,ca1,ca2,ca3,ca4⟩:=RF5 ra
 obtain ⟨sn,cn0⟩:=RF1 rn
 obtain ⟨so,co0,co1,co2,co3,co4,fo0,fo1,fo2,fo3,fo4⟩:=RFz5 ro
 refine wp_region_fails 9 [true,true,true,true,true,true,true,true,true,false,true,false] [.val (.agg #[.string (S a.c.num),.string (S (a.c.den:Int)),.slice pa a.t.length ca,.string (S a.r.num),.string (S (a.r.den:Int))]),.val (.tuple #[.agg #[.string (S il.num),.string (S (il.den:Int)),.string (S ih.num),.string (S (ih.den:Int))],.int .i64 0]),.val (.agg #[.string (S il.num),.string (S (il.den:Int)),.string (S ih.num),.string (S (ih.den:Int))]),.val (.int .i64 0),.val (.agg #[.string (S il.num),.string (S (il.den:Int)),.string (S ih.num),.string (S (ih.den:Int))]),.val (.int .i64 (p:Int)),.val (.tuple #[.agg #[.string ⟨#[]⟩,.string ⟨#[]⟩,.string ⟨#[]⟩,.string ⟨#[]⟩],.int .i64 50]),.val (.agg #[.string ⟨#[]⟩,.string ⟨#[]⟩,.string ⟨#[]⟩,.string ⟨#[]⟩]),.val (.int .i64 50),.val undef,.say (fresh _ (.cells #[.string ⟨#[]⟩,.string ⟨#[]⟩,.string ⟨#[]⟩,.string ⟨#[]⟩] 53)),.val undef] (FailsOk a1 w) (by kernel_rfl) (by kernel_rfl) ⟨fresh_mono _ _,trivial⟩ (itemsBut.cons (qi1 fun X h=>RF5 (Row.below ra h)) (itemsBut.cons (qi2 fun X h=>MR X (UAt.below HPa.out (hB.trans (h.mono hB.size))) (he.enve.env.below (hB.trans (h.mono hB.size)))) (itemsBut.cons qi0 (itemsBut.cons qi0 (itemsBut.cons (qi2 fun X h=>MI X) (itemsBut.cons (qi1 fun X h=>RF1 (Row.below rn h)) (itemsBut.cons (qi2 fun X h=>MQ X (he.enve.below (hB.trans (h.mono hB.size)))) (itemsBut.cons qi0 (itemsBut.cons qi0 (itemsBut.skip (itemsBut.cons qia (itemsBut.skip trivial)))))))))))) ?hf ?hQ
 case hQ =>
  rintro e W ⟨rfl,h2⟩
  exact ⟨_,rfl,fun a ha=>⟨ha,rfl,h2⟩⟩
 case hf =>
  intro o ho
  obtain rfl:=Option.some.inj ho
  intro ρ X qX qc qg qf qt qd
  simp [depsSay,itemSp,QItem.sp,Region.binds] at qd
  obtain ⟨e1,e2⟩:=qd
  refine ⟨by simp [Region.wanted,yieldedBy],?_⟩
  simp [execOp,go_sem,failsBy,foreign,qc,qt,qf,e1,e2]
  exact (MB X (he.below (hB.trans (qX.mono hB.size)))).mono fun e Y ⟨h1,h2⟩=>⟨h1,(hB.trans (qX.mono hB.size)).trans (h2.mono (hB.trans (qX.mono hB.size)).size)⟩
theorem asqrt_err {a0 a1:Addr} {p:Nat} {a:Frm} (rF:RangeF a) (dI:IDig 200 (rangeI a)) (okI:(rangeI a).Ok) (oa:a.Ok) (hp:p≤30) (hneg:(rangeI a).lo<0) (pa:Option Addr) (ca:Nat) (w:World) (hpa:TAt 51 w pa a.t) (he:EnvA a0 a1 w):Calls Tryz.prog 32 #[FV a pa ca,.int .i64 (p:Int)] w (afErr w):=by
 have hB:Below w.heap.size w w:=Below.refl _ _
 have HPa:=Lib.hid hpa
 have da:=rF.rad.dig
 have CF:=fun s W (r:Row W s (.cells #[.string (S a.c.num),.string (S (a.c.den:Int)),.slice pa a.t.length ca,.string (S a.r.num),.string (S (a.r.den:Int))] 30)) (h1:TAt 51 W pa a.t) (H:Env W)=>fcontains1 103 (enters_of Tryz.func103 (by kernel_rfl) rfl) s a pa ca W r (fun X hX=>afbad oa da pa ca X (UAt.below h1 hX) (H.below hX))
 have CR:=fun ba bn W (ra:Row W ba (.cells #[.string (S a.c.num),.string (S (a.c.den:Int)),.slice pa a.t.length ca,.string (S a.r.num),.string (S (a.r.den:Int))] 30)) (rn:Row W bn (.cells #[.int .i64 (p:Int)] 3)) (h1:TAt 51 W pa a.t) (H:EnvA a0 a1 W)=>asqrt1_err rF dI okI oa hp hneg pa ca ba bn W ra rn h1 H
 unfold afErr
 unfold FV
 clear hpa rF dI okI oa hneg da hp
 go_enter Tryz.func32, Tryz.ntmps32
 go_wp2_with fail
 have d0_o:w.heap.size≤w.heap.size+1+1:=by have:=hB.size;omega
 have sB:=hB.size
 refine world_cut (fun X=>Below w.heap.size w X∧Row X w.heap.size (.cells #[.string (S a.c.num),.string (S (a.c.den:Int)),.slice pa a.t.length ca,.string (S a.r.num),.string (S (a.r.den:Int))] 30)∧Row X (w.heap.size+1) (.cells #[.int .i64 (p:Int)] 3)∧Row X (w.heap.size+1+1) (.cells #[.string ⟨#[]⟩,.string ⟨#[]⟩,.slice none 0 0,.string ⟨#[]⟩,.string ⟨#[]⟩] 30)∧Row X (w.heap.size+1+1+1) (.cells #[.string (S a.c.num),.string (S (a.c.den:Int)),.slice pa a.t.length ca,.string (S a.r.num),.string (S (a.r.den:Int))] 30)) ⟨BW,RW8,RW8,RW8,RW8⟩ ?_
 clear hB sB
 rintro V1 ⟨hB,ra,rn,ro,rb3⟩
 obtain ⟨sa,ca0,ca1,ca2,ca3,ca4⟩:=RF5 ra
 obtain ⟨sn,cn0⟩:=RF1 rn
 obtain ⟨so,co0,co1,co2,co3,co4,fo0,fo1,fo2,fo3,fo4⟩:=RFz5 ro
 obtain ⟨sb3,cb30,cb31,cb32,cb33,cb34⟩:=RF5 rb3
 refine (afcompute_err 82 _ _ _ a0 a1 _ (he.below hB) (enters_of Tryz.func82 (by kernel_rfl) rfl) (fun X h=>CF _ _ (Row.below rb3 h) (UAt.below HPa.out (hB.trans (h.mono hB.size))) (he.env.below (hB.trans (h.mono hB.size)))) (fun X h=>CR _ _ _ (Row.below ra h) (Row.below rn h) (UAt.below HPa.out (hB.trans (h.mono hB.size))) (he.below (hB.trans (h.mono hB.size))))).mono ?_
 rintro e W2 ⟨rfl,h1⟩
 have stp:=St4 hB h1 ra rn ro rb3;clear hB h1 ra sa ca0 ca1 ca2 ca3 ca4 rn sn cn0 ro so co0 co1 co2 co3 co4 fo0 fo1 fo2 fo3 fo4 rb3 sb3 cb30 cb31 cb32 cb33 cb34
 obtain ⟨hB,ra,rn,ro,rb3⟩:=stp
 obtain ⟨sa,ca0,ca1,ca2,ca3,ca4⟩:=RF5 ra
 obtain ⟨sn,cn0⟩:=RF1 rn
 obtain ⟨so,co0,co1,co2,co3,co4,fo0,fo1,fo2,fo3,fo4⟩:=RFz5 ro
 obtain ⟨sb3,cb30,cb31,cb32,cb33,cb34⟩:=RF5 rb3
 go_wp2_with fail
 have sB:=hB.size
 refine post_cut (fun X=>Below w.heap.size w X∧Row X (w.heap.size+1+1) (.cells #[.string ⟨#[]⟩,.string ⟨#[]⟩,.slice none 0 0,.string ⟨#[]⟩,.string ⟨#[]⟩] 30)) ⟨BW,RW8⟩ ?_
 clear ra
 clear sa ca0 ca1 ca2 ca3 ca4
 clear rn
 clear sn cn0
 clear ro
 clear so co0 co1 co2 co3 co4 fo0 fo1 fo2 fo3 fo4
 clear rb3
 clear sb3 cb30 cb31 cb32 cb33 cb34
 clear hB sB
 rintro V3 ⟨hB,ro⟩
 obtain ⟨so,co0,co1,co2,co3,co4,fo0,fo1,fo2,fo3,fo4⟩:=RFz5 ro
 refine bodyPost_ret (v := .tuple #[.agg #[.string ⟨#[]⟩,.string ⟨#[]⟩,.slice none 0 0,.string ⟨#[]⟩,.string ⟨#[]⟩],.int .i64 80]) ?res rfl ⟨rfl,hB⟩
 case res=>simp [results,Tryz.results32, go_sem,co0,co1,co2,co3,co4]
end Go.Proofs.YtjpkfjmmmmfeeaaGreatDoor
