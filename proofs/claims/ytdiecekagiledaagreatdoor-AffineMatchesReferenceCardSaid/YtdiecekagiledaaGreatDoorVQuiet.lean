/- A region that draws its order, all of whose operations are quiet (they make. -/
import Derived.Test.YtdiecekagiledaaGreatDoorVQTool
set_option linter.unusedSimpArgs false
set_option linter.unusedVariables false
namespace Go.Proofs.YtdiecekagiledaaGreatDoor
open Go Go.RowKit Go.Lib Go.Shelf
abbrev zY:=Value->World->Prop
def jf(ops:Array Oper)(ρ:Operand->Value)(j:Nat):Option Bool :=
 match ops[j]? with
 | some o=>(match o.dst with|some t=>(match ρ (.tmp t)with | .bool b=>some b|_=>none)|none=>none)
 | none=>none
def yi(P:Program)(S:zY)(w:World):Result Next->Prop
 | .ok (.value v) w'=>S v w'/\Aa w w'
 | .ok .skip w'=>S undef w'/\Aa w w'
 | .ok (.enter f args) w'=>Aa w w'/\Calls P f args w' fun e w''=>∃ v,e=.returned v/\S v w''/\Below w'.heap.size w' w''
 | _=>False
def qj(ops:Array Oper)(Sp:Nat->zY)(ρ:Operand->Value)(W:World):List Edge->Prop
 | []=>True
 | e :: l=>(Region.binds .any e=true->match ops[e.on]? with|some o=>(match o.dst with|some t=>Sp e.on (ρ (.tmp t)) W|none=>True)|none=>True)/\qj ops Sp ρ W l
def vg(l:List Oper)(t:Nat):Bool:=l.all fun o=>o.dst != some t
def kU(P:Program)(ops:Array Oper)(fl:List Oper)(Sp:Nat->zY)(tmps:Array Value)(w:World)(i:Nat)(o:Oper):Prop :=
 ∀(ρ:Operand->Value) (W:World),Aa w W->(∀ v,ρ (.const v)=v)->(∀ g,ρ (.global g)=.pointer (some ⟨g,0,none⟩))->(∀ f,ρ (.func f)=.func (.func f) #[] #[]) ->
  (∀ t,vg fl t=true->ρ (.tmp t)=tmps.getD t undef)->qj ops Sp ρ W o.after.toList ->
  if Region.wanted o (jf ops ρ) then yi P (Sp i) W ((execOp ρ o).run P W) else Sp i undef W
def allQuiet(P:Program)(ops:Array Oper)(fl:List Oper)(Sp:Nat->zY)(tmps:Array Value)(w:World):Nat->List Oper->Prop
 | _,[]=>True
 | i,o :: l=>kU P ops fl Sp tmps w i o/\allQuiet P ops fl Sp tmps w (i+1) l
def zp(Sp:Nat->zY)(K:Array Value->World->Prop)(W:World):Nat->List Oper->Array Value->Prop
 | _,[],T=>K T W
 | i,o :: l,T=>match o.dst with
  | some d=>∀ v,Sp i v W->zp Sp K W (i+1) l (T.setIfInBounds d v)
  | none=>zp Sp K W (i+1) l T
theorem allQuiet.get{P:Program}{ops:Array Oper}{fl:List Oper}{Sp:Nat->zY}{tmps:Array Value}{w:World}:∀(l:List Oper) (k:Nat),allQuiet P ops fl Sp tmps w k l->∀ i o,l[i]? = some o->kU P ops fl Sp tmps w (k+i) o
 | [],_,_,_,_,h=>by simp at h
 | p :: l,k,h,i,o,hi=>by
  cases i with
  | zero=>simp at hi;subst hi;exact h.1
  | succ i =>
   have:=allQuiet.get l (k+1) h.2 i o (by simpa using hi);rw[show k+(i+1)=k+1+i by omega];exact this
theorem jL{ops:Array Oper}{Sp:Nat->zY}{ρ:Operand->Value}{W:World}:∀(l:List Edge),(∀ e∈l,Region.binds .any e=true->∀ o t,ops[e.on]? = some o->o.dst=some t->Sp e.on (ρ (.tmp t)) W)->qj ops Sp ρ W l
 | [],_=>trivial
 | e :: l,h=>by
  refine⟨fun hb => ?_,jL l fun e' he'=>h e' (by simp[he'])⟩;split
  ·rename_i o ho;split
   ·rename_i t ht;exact h e (by simp) hb o t ho ht
   ·trivial
  ·trivial
structure QuietAt(ops:Array Oper)(Sp:Nat->zY)(tmps:Array Value)(ds:List Deferred)(w:World)(listed:Array Bool)(a:Act)(W:World):Prop where
 below:Aa w W
 defers:a.defers=ds
 size:a.tmps.size=tmps.size
 lsize:listed.size=ops.size
 done:∀ i (o:Oper) t,ops[i]? = some o->o.dst=some t->listed.getD i false=true->Sp i (a.eval (.tmp t)) W
 same:∀ t,(∀ i (o:Oper),ops[i]? = some o->listed.getD i false=true->o.dst≠some t)->a.tmps[t]? = tmps[t]?
theorem vw(a:Act)(t:Nat):a.eval (.tmp t)=a.tmps.getD t undef:=rfl
theorem jau{ops:Array Oper}{a:Act}:yielded ops a.tmps=jf ops a.eval:=by
 funext j;unfold yielded jf
 cases h:ops[j]? with
 | none=>simp
 | some o =>
  cases hd:o.dst with
  | none=>simp[hd]
  | some t =>
   simp only[Option.bind_some,hd,vw];rw[Aj]
   cases a.tmps[t]? with
   | none=>simp[undef]
   | some v=>simp only[Option.getD_some];cases v<;>rfl
theorem vm{listed:Array Bool}{i j:Nat}(h:(listed.setIfInBounds i true).getD j false=true):j=i\/listed.getD j false=true:=by
 rw[Aj]at h ⊢;by_cases hij:i=j
 ·exact .inl hij.symm
 ·rw[AL hij]at h;exact .inr h
def quietFit(ops:Array Oper)(n:Nat):Bool :=
 (List.range ops.size).all fun i=>match ops[i]? with
  | some o=>(match o.dst with|some t=>decide (t<n)&&((List.range ops.size).all fun j=>decide (j=i)||(match ops[j]? with|some p=>p.dst != some t|none=>true))|none=>true)
    && o.after.all (fun e => !Region.binds .any e||decide (e.on<i))
  | none=>true
theorem quietFit.own{ops:Array Oper}{n:Nat}(h:quietFit ops n=true){i j:Nat}{o p:Oper}{t:Nat}(ho:ops[i]? = some o)(hp:ops[j]? = some p)(ht:o.dst=some t)(hne:j≠i):p.dst≠some t:=by
 unfold quietFit at h;rw[Be]at h;have h1:=h i (BB.2 (Ag.1 ho).1);simp only[ho,ht,AV]at h1;have h2:=h1.1.2;rw[Be]at h2;have h3:=h2 j (BB.2 (Ag.1 hp).1);simp only[hp]at h3;simpa[hne]using h3
theorem quietFit.lt{ops:Array Oper}{n:Nat}(h:quietFit ops n=true){i:Nat}{o:Oper}{t:Nat}(ho:ops[i]? = some o)(ht:o.dst=some t):t<n:=by
 unfold quietFit at h;rw[Be]at h;have h1:=h i (BB.2 (Ag.1 ho).1);simp only[ho,ht,AV]at h1;simpa using h1.1.1
theorem quietFit.edge{ops:Array Oper}{n:Nat}(h:quietFit ops n=true){i:Nat}{o:Oper}(ho:ops[i]? = some o){e:Edge}(he:e∈o.after)(hb:Region.binds .any e=true):e.on<i:=by
 unfold quietFit at h;rw[Be]at h;have h1:=h i (BB.2 (Ag.1 ho).1);simp only[ho,AV]at h1;have h2:=h1.2;rw[Array.all_eq_true_iff_forall_mem]at h2;have:=h2 e he;simpa[hb]using this
theorem jbC{ops:Array Oper}{t:Nat}(ht:vg ops.toList t=true){j:Nat}{p:Oper}(hp:ops[j]? = some p):p.dst≠some t:=by
 have hm:p∈ops.toList:=by
  have h2:=Ag.1 hp;exact h2.2 ▸ (by simp)
 unfold vg at ht;rw[Be]at ht;simpa using ht p hm
theorem qx{fl:List Oper}{t:Nat}(ht:vg fl t=true){p:Oper}(hp:p∈fl):p.dst≠some t:=by
 unfold vg at ht;rw[Be]at ht;simpa using ht p hp
theorem qb0{ops:Array Oper}{j:Nat}{p:Oper}(hp:ops[j]? = some p):p∈ops.toList:=by
 have h2:=Ag.1 hp;exact h2.2 ▸ (by simp)
theorem qu{listed:Array Bool}{i j:Nat}(h:listed.getD j false=true):(listed.setIfInBounds i true).getD j false=true:=by
 rw[Aj]at h ⊢;by_cases hij:i=j
 ·subst hij;rw[Bg];split
  ·rfl
  ·rename_i hn;rw[Array.getElem?_eq_none oo]at h;exact h
 ·rw[AL hij];exact h
theorem qD{listed:Array Bool}{i:Nat}(h:i<listed.size):(listed.setIfInBounds i true).getD i false=true:=by
 rw[Aj,Bg,if_pos h];rfl
theorem yP{P:Program}{ops:Array Oper}{Q:Exit->Act->World->Prop}{Sp:Nat->zY}{tmps:Array Value}{ds:List Deferred}{w:World}{fl:List Oper}
  (hmono:∀ i v W W',Sp i v W->Below W.heap.size W W'->Sp i v W') (hfit:quietFit ops tmps.size=true)
  {i:Nat} {o:Oper} {listed:Array Bool} {a:Act} {W:World} (hob0:kU P ops fl Sp tmps w i o) (hfl:∀ j (p:Oper),ops[j]? = some p->listed.getD j false=true->p∈fl) (ho:ops[i]? = some o) (hJ:QuietAt ops Sp tmps ds w listed a W)
  (hdep:∀ e∈o.after,Region.binds .any e=true->listed.getD e.on false=true) :
  wpOp P ops Q i (QuietAt ops Sp tmps ds w (listed.setIfInBounds i true)) a W:=by
 have hob:=hob0 a.eval W hJ.below (fun _=>rfl) (fun _=>rfl) (fun _=>rfl)
  (fun t ht=>by rw[vw,Aj,Aj,hJ.same t (fun j p hp hl=>qx ht (hfl j p hp hl))])
  (jL _ fun e he hb p t hp ht=>hJ.done e.on p t hp ht (hdep e (by simpa using he) hb))
 have fin:∀ v W',Sp i v W'->Below W.heap.size W W'->QuietAt ops Sp tmps ds w (listed.setIfInBounds i true) (a.put o.dst v) W':=by
  intro v W' hs hB;refine⟨hJ.below.trans (hB.mono hJ.below.size),?_,?_,by rw[BL];exact hJ.lsize,?_,?_⟩
  ·rw[<- hJ.defers];unfold Act.put;split<;>rfl
  ·rw[<- hJ.size];unfold Act.put;split<;>simp
  ·intro j p t hp ht hj;rw[vw];by_cases hji:j=i
   ·subst hji;rw[ho]at hp;cases hp;unfold Act.put;rw[ht];simp only;rw[Aj,Bg,if_pos (by rw[hJ.size];exact quietFit.lt hfit ho ht)];exact hs
   ·have h1:=hmono _ _ _ _ (hJ.done j p t hp ht ((vm hj).resolve_left hji)) hB;have h2:=quietFit.own hfit hp ho ht (Ne.symm hji);unfold Act.put
    cases hd:o.dst with
    | none=>exact h1
    | some d =>
     have:d≠t:=fun e=>h2 (by rw[hd,e])
     simp only;rw[Aj,AL this,<- Aj];exact h1
  ·intro t ht;have hself:o.dst≠some t:=ht i o ho (qD (by rw[hJ.lsize];exact(Ag.1 ho).1));rw[<- hJ.same t (fun j p hp hl=>ht j p hp (qu hl))];unfold Act.put
   cases hd:o.dst with
   | none=>rfl
   | some d =>
    have:d≠t:=fun e=>hself (by rw[hd,e])
    simp only;rw[AL this]
 unfold wpOp;simp only[ho];rw[jau];split at hob
 ·rename_i hw;rw[if_pos hw];left;unfold Oper.wp Oper.upon
  cases hr:(execOp a.eval o).run P W with
  | ok n W' =>
   rw[hr]at hob
   cases n with
   | value v=>exact fin v W' hob.1 hob.2
   | skip=>exact fin _ W' hob.1 hob.2
   | enter f args =>
    refine Calls.mono hob.2 fun e W'' he => ?_
    obtain⟨v,rfl,hs,hB⟩:=he;exact fin v W'' hs (hob.1.trans (hB.mono hob.1.size))
   | _=>exact hob.elim
  | halt x W'=>rw[hr]at hob;exact hob.elim
 ·rename_i hw;rw[if_neg hw];exact fin _ W hob (Au _ _)
theorem jx{Sp:Nat->zY}{K:Array Value->World->Prop}{W:World}(A:Array Value):∀(l:List Oper) (k:Nat) (T:Array Value),
  zp Sp K W k l T->T.size=A.size->(∀ i (o:Oper) t,l[i]? = some o->o.dst=some t->Sp (k+i) (A.getD t undef) W)->(∀ t,vg l t=true->A[t]? = T[t]?)->K A W
 | [],_,T,h,hs,_,hsame=>by
  have:A=T:=Array.ext_getElem? fun i=>hsame i rfl
  rw[this];exact h
 | o :: l,k,T,h,hs,hsp,hsame=>by
  unfold zp at h
  cases hd:o.dst with
  | none =>
   rw[hd]at h;refine jx A l (k+1) T h hs (fun i p t hp ht => ?_) (fun t ht=>hsame t ?_)
   ·have:=hsp (i+1) p t (by simpa using hp) ht
    rwa[show k+(i+1)=k+1+i by omega]at this
   ·unfold vg at *;simp[hd,ht]
  | some d =>
   rw[hd]at h;refine jx A l (k+1) _ (h (A.getD d undef) (hsp 0 o d rfl hd)) (by simpa using hs) (fun i p t hp ht => ?_) (fun t ht => ?_)
   ·have:=hsp (i+1) p t (by simpa using hp) ht
    rwa[show k+(i+1)=k+1+i by omega]at this
   ·by_cases hdt:d=t
    ·subst hdt;rw[Bg];by_cases hlt:d<T.size
     ·have hlt':d<A.size:=hs ▸ hlt;rw[if_pos hlt,Aj,AK hlt'];rfl
     ·have hlt':¬ d<A.size:=hs ▸ hlt;rw[if_neg hlt,Array.getElem?_eq_none (Nat.le_of_not_lt hlt')]
    ·rw[AL hdt];exact hsame t (by unfold vg at *;simp[hd,ht,hdt])
theorem za8{ops:Array Oper}{Q:Exit->Act->World->Prop}{Sp:Nat->zY}{tmps:Array Value}{ds:List Deferred}{w:World}
  (hdone:∀ W,Aa w W->zp Sp (fun T W=>Q .normal ⟨T,ds⟩ W) W 0 ops.toList tmps)
  {listed:Array Bool} {a:Act} {W:World} (hJ:QuietAt ops Sp tmps ds w listed a W) (hl:∀ i,i<ops.size->listed.getD i false=true):Q .normal a W:=by
 have h1:=jx a.tmps ops.toList 0 tmps (hdone W hJ.below) hJ.size.symm (fun i o t ho ht=>by
  rw[Bj];have ho':ops[i]? = some o:=by simpa using ho
  exact hJ.done i o t ho' ht (hl i (Ag.1 ho').1)) (fun t ht=>hJ.same t (fun j p hp _=>jbC ht hp))
 have:a=⟨a.tmps,ds⟩:=by rw[<- hJ.defers]
 rw[this];exact h1
theorem jbp{P:Program}{ops:Array Oper}{Q:Exit->Act->World->Prop}{Sp:Nat->zY}{tmps:Array Value}{ds:List Deferred}{w:World}
  (hmono:∀ i v W W',Sp i v W->Below W.heap.size W W'->Sp i v W') (hall:allQuiet P ops ops.toList Sp tmps w 0 ops.toList) (hfit:quietFit ops tmps.size=true)
  (hdone:∀ W,Aa w W->zp Sp (fun T W=>Q .normal ⟨T,ds⟩ W) W 0 ops.toList tmps) :
  ∀(fuel:Nat) (listed:Array Bool) (a:Act) (W:World),QuietAt ops Sp tmps ds w listed a W->(listed.toList.count false<=fuel)->wpAny P .any ops Q fuel listed a W:=by
 have fin:∀(listed:Array Bool) (a:Act) (W:World),QuietAt ops Sp tmps ds w listed a W->Region.ready .any ops listed=[]->Q .normal a W:=by
  intro listed a W hJ hr;have hl:∀ i,i<ops.size->listed.getD i false=true:=by
   intro i
   induction i using Nat.strongRecOn with
   | _ i ih =>
    intro hi;rcases hc:listed.getD i false with _|_
    ·exfalso;have hm:i∈Region.ready .any ops listed:=by
      refine mem_ready.2 ⟨?_,ops[i],by simp[hi],fun e he hb => ?_⟩
      ·rw[Aj]at hc ⊢;have:i<listed.size:=by rw[hJ.lsize];exact hi
       rw[AK this]at hc ⊢;exact hc
      ·have h1:=quietFit.edge hfit (i:=i) (o:=ops[i]) (by simp[hi]) he hb;exact ih e.on h1 oo
     rw[hr]at hm;cases hm
    ·rfl
  exact za8 hdone hJ hl
 intro fuel
 induction fuel with
 | zero =>
  intro listed a W hJ hc;have hr:Region.ready .any ops listed=[]:=by
   rw[Cs];intro i hi;obtain⟨h1,o,ho,_⟩:=mem_ready.1 hi;have hlt:i<listed.size:=by rw[hJ.lsize];exact(Ag.1 ho).1
   rw[Aj,AK hlt]at h1;have:false∈listed.toList:=by
    have h2:listed[i]=false:=h1;rw[<- h2];simp
   have:=BI.2 this;omega
  exact⟨hr,fin listed a W hJ hr⟩
 | succ fuel ih =>
  intro listed a W hJ hc;refine⟨fun hr=>fin listed a W hJ hr,fun i hi => ?_⟩;obtain⟨h1,o,ho,hdep⟩:=mem_ready.1 hi;refine wpOp_mono (fun a' W' hJ'=>ih _ a' W' hJ' ?_) (yP hmono hfit (by simpa using allQuiet.get ops.toList 0 hall i o (by simpa using ho)) (fun _ _ hp _=>qb0 hp) ho hJ hdep);have hlt:i<listed.size:=by rw[hJ.lsize];exact(Ag.1 ho).1
  rw[Aj,AK hlt]at h1;have h2:listed.toList[i]'(by simpa using hlt)=false:=by simpa using h1
  rw[Cg];have h3:=DR (l:=listed.toList) (a:=true) (b:=false) (i:=i) (by simpa using hlt);have h4:0<listed.toList.count false:=BI.2 (by rw[<- h2];exact CK _);rw[h3,h2];show List.count false listed.toList-1+0<=fuel;omega
theorem vaJ{P:Program}{ops:Array Oper}{Q:Exit->Act->World->Prop}{Sp:Nat->zY}{tmps:Array Value}{ds:List Deferred}{w:World}
  (hmono:∀ i v W W',Sp i v W->Below W.heap.size W W'->Sp i v W') (hall:allQuiet P ops ops.toList Sp tmps w 0 ops.toList) (hfit:quietFit ops tmps.size=true)
  (hdone:∀ W,Aa w W->zp Sp (fun T W=>Q .normal ⟨T,ds⟩ W) W 0 ops.toList tmps) :
  ∀(m k:Nat) (listed:Array Bool) (a:Act) (W:World),QuietAt ops Sp tmps ds w listed a W->(∀ i,i<k->listed.getD i false=true)->k+m=ops.size->wpOps P ops Q (List.range' k m) a W
 | 0,k,listed,a,W,hJ,hl,hk=>za8 hdone hJ fun i hi=>hl i oo
 | m+1,k,listed,a,W,hJ,hl,hk=>by
  rw[Ea,wpOps_cons];have ho:ops[k]? = some (ops[k]'oo):=by simp[show k<ops.size by omega]
  refine wpOp_mono (fun a' W' hJ'=>vaJ hmono hall hfit hdone m (k+1) _ a' W' hJ' (fun i hi => ?_) oo) (yP hmono hfit (by have h0:=allQuiet.get ops.toList 0 hall k _ (show ops.toList[k]? = some (ops[k]'oo) by simp);rwa[Bj]at h0) (fun _ _ hp _=>qb0 hp) ho hJ fun e he hb=>hl _ (quietFit.edge hfit ho he hb));rw[Aj];by_cases hik:k=i
  ·subst hik;rw[Bg,if_pos (by rw[hJ.lsize];omega)];rfl
  ·rw[AL hik,<- Aj];exact hl i oo
theorem kai{P:Program}{ops:Array Oper}{Q:Exit->Act->World->Prop}{id:Nat}{tmps:Array Value}{ds:List Deferred}{w:World}(Sp:Nat->zY)
  (hmono:∀ i v W W',Sp i v W->Below W.heap.size W W'->Sp i v W') (hfit:quietFit ops tmps.size=true) (hall:allQuiet P ops ops.toList Sp tmps w 0 ops.toList)
  (hdone:∀ W,Aa w W->zp Sp (fun T W=>Q .normal ⟨T,ds⟩ W) W 0 ops.toList tmps):(Code.region id ops false).wp P Q ⟨tmps,ds⟩ w:=by
 refine wp_region ?_;rw[List.range_eq_range'];refine vaJ hmono hall hfit hdone ops.size 0 (Array.replicate ops.size false) _ _ ⟨Au _ _,rfl,rfl,by simp,?_,fun _ _=>rfl⟩ (fun i hi=>by omega) oo;intro i o t _ _ h;rw[Aj]at h;by_cases hi:i<ops.size<;>simp[hi]at h
theorem zaK{P:Program}{ops:Array Oper}{Q:Exit->Act->World->Prop}{id:Nat}{tmps:Array Value}{ds:List Deferred}{w:World}(Sp:Nat->zY)(hm:P.follows .mixedOrders=true)
  (hmono:∀ i v W W',Sp i v W->Below W.heap.size W W'->Sp i v W') (hfit:quietFit ops tmps.size=true) (hall:allQuiet P ops ops.toList Sp tmps w 0 ops.toList)
  (hdone:∀ W,Aa w W->zp Sp (fun T W=>Q .normal ⟨T,ds⟩ W) W 0 ops.toList tmps):(Code.region id ops true).wp P Q ⟨tmps,ds⟩ w:=by
 refine wp_region_any hm (jbp hmono hall hfit hdone ops.size _ _ _ ⟨Below.drew (Au _ _),rfl,rfl,by simp,?_,fun _ _=>rfl⟩ ?_)
 ·intro i o t _ _ h;rw[Aj]at h;by_cases hi:i<ops.size<;>simp[hi]at h
 ·simp
def tailFit(ops:Array Oper)(n:Nat):Bool :=
 (List.range ops.size).all fun i=>decide (i<n)||(match ops[i]? with|some o=>(List.range i).all fun j=>o.after.any fun e=>decide (e.on=j)&&Region.binds .any e|none=>true)
theorem tailFit.waits{ops:Array Oper}{n:Nat}(h:tailFit ops n=true){i:Nat}{o:Oper}(ho:ops[i]? = some o)(hi:n<=i){j:Nat}(hj:j<i):∃ e∈o.after,e.on=j/\Region.binds .any e=true:=by
 unfold tailFit at h;rw[Be]at h;have h1:=h i (BB.2 (Ag.1 ho).1);simp only[ho,DE,decide_eq_true_eq]at h1;rcases h1 with h1|h1
 ·omega
 ·rw[Be]at h1;have h2:=h1 j (BB.2 hj);obtain⟨e,he,h3⟩:=DJ.1 h2;simp only[AV,decide_eq_true_eq]at h3;exact⟨e,he,h3⟩
theorem qw{ops:Array Oper}{listed:Array Bool}{i:Nat}(hi:i∈Region.ready .any ops listed)(hl:listed.size=ops.size):listed.getD i false=false:=by
 obtain⟨h1,o,ho,_⟩:=mem_ready.1 hi;have hlt:i<listed.size:=by rw[hl];exact(Ag.1 ho).1
 rw[Aj,AK hlt]at h1 ⊢;exact h1
theorem qbc{P:Program}{ops:Array Oper}{Q:Exit->Act->World->Prop}{n N:Nat}(hfit:quietFit ops N=true)(htail:tailFit ops n=true) :
  ∀(m k fuel:Nat) (listed:Array Bool) (a:Act) (W:World),n<=k->k+m=ops.size->listed.size=ops.size->(∀ i,i<k->listed.getD i false=true)->(∀ i,k<=i->listed.getD i false=false)->m<=fuel ->
   wpOps P ops Q (List.range' k m) a W->wpAny P .any ops Q fuel listed a W
 | 0,k,fuel,listed,a,W,hn,hk,hs,h1,h2,hf,h=>by
  have hr:Region.ready .any ops listed=[]:=by
   rw[Cs];intro i hi;have h3:=qw hi hs;obtain⟨_,o,ho,_⟩:=mem_ready.1 hi;have:=h1 i (by have:=(Ag.1 ho).1;omega);rw[h3]at this;cases this
  cases fuel with
  | zero=>exact⟨hr,h⟩
  | succ f=>exact⟨fun _=>h,fun i hi=>(by rw[hr]at hi;cases hi)⟩
 | m+1,k,fuel,listed,a,W,hn,hk,hs,h1,h2,hf,h=>by
  obtain⟨f,rfl⟩:∃ f,fuel=f+1:=⟨fuel-1,oo⟩
  have ho:ops[k]? = some (ops[k]'oo):=by simp[show k<ops.size by omega]
  have hm:k∈Region.ready .any ops listed:=by
   refine mem_ready.2 ⟨?_,_,ho,fun e he hb=>h1 _ (quietFit.edge hfit ho he hb)⟩;have:=h2 k (Am _);rw[Aj]at this ⊢;have hlt:k<listed.size:=oo
   rw[AK hlt]at this ⊢;exact this
  refine⟨fun hr=>(by rw[hr]at hm;cases hm),fun i hi => ?_⟩;have hik:i=k:=by
   rcases Cf i k with hlt|he|hgt
   ·have:=h1 i hlt;rw[qw hi hs]at this;cases this
   ·exact he
   ·obtain⟨_,o,ho',hdep⟩:=mem_ready.1 hi;obtain⟨e,he,hek,hb⟩:=tailFit.waits htail ho' oo hgt;have:=hdep e he hb;rw[hek,h2 k (Am _)]at this;cases this
  subst hik;rw[Ea,wpOps_cons]at h;refine wpOp_mono (fun a' W' h'=>qbc hfit htail m (i+1) f _ a' W' oo oo (by rw[BL];exact hs) (fun j hj => ?_) (fun j hj => ?_) oo h') h
  ·by_cases hji:j=i
   ·subst hji;exact qD oo
   ·exact qu (h1 j oo)
  ·have:=h2 j oo;rw[Aj]at this ⊢;rw[AL oo];exact this
theorem vbK{P:Program}{ops:Array Oper}{Q:Exit->Act->World->Prop}{Sp:Nat->zY}{tmps:Array Value}{ds:List Deferred}{w:World}{n:Nat}
  (hmono:∀ i v W W',Sp i v W->Below W.heap.size W W'->Sp i v W') (hn:n<=ops.size) (htail:tailFit ops n=true) (hall:allQuiet P ops (ops.toList.take n) Sp tmps w 0 (ops.toList.take n)) (hfit:quietFit ops tmps.size=true)
  (hdone:∀ W,Aa w W->zp Sp (fun T W=>wpOps P ops Q (List.range' n (ops.size-n)) ⟨T,ds⟩ W) W 0 (ops.toList.take n) tmps) :
  ∀(fuel:Nat) (listed:Array Bool) (a:Act) (W:World),QuietAt ops Sp tmps ds w listed a W->(∀ i,n<=i->listed.getD i false=false)->(listed.toList.count false<=fuel)->wpAny P .any ops Q fuel listed a W:=by
 have fin:∀(fuel:Nat) (listed:Array Bool) (a:Act) (W:World),QuietAt ops Sp tmps ds w listed a W->(∀ i,n<=i->listed.getD i false=false)->(∀ i,i<n->listed.getD i false=true)->ops.size-n<=fuel->wpAny P .any ops Q fuel listed a W:=by
  intro fuel listed a W hJ h2 h1 hf;refine qbc hfit htail (ops.size-n) n fuel listed a W (Am _) oo hJ.lsize h1 h2 hf ?_;have h3:=jx a.tmps (ops.toList.take n) 0 tmps (hdone W hJ.below) hJ.size.symm (fun i o t ho ht=>by
   rw[Bj];rw[AW]at ho;split at ho
   ·rename_i hi;exact hJ.done i o t (by simpa using ho) ht (h1 i hi)
   ·cases ho) (fun t ht=>hJ.same t (fun j p hp hl=>by
    have hjn:j<n:=by
     rcases AJ j n with h|h
     ·exact h
     ·rw[h2 j h]at hl;cases hl
    unfold vg at ht;rw[Be]at ht;have hm:p∈ops.toList.take n:=by
     refine Bk (i:=j) ?_;rw[AW,if_pos hjn];simpa using hp
    simpa using ht p hm))
  have:a=⟨a.tmps,ds⟩:=by rw[<- hJ.defers]
  rw[this];exact h3
 have cnt:∀(listed:Array Bool),listed.size=ops.size->(∀ i,n<=i->listed.getD i false=false)->ops.size-n<=listed.toList.count false:=by
  intro listed hs h2;have e:listed.toList=listed.toList.take n++List.replicate (ops.size-n) false:=by
   apply List.ext_getElem?;intro i;rcases AJ i n with hi|hi
   ·rw[BS (by simp;omega),AW,if_pos hi]
   ·rw[CM (by simp;omega)];have hl:(listed.toList.take n).length=n:=by simp;omega
    rw[hl,CY];have:=h2 i hi;rw[Aj]at this;split
    ·rename_i hlt;have hlt':i<listed.size:=oo
     rw[AK hlt']at this;simp at this;simp[hlt',this]
    ·rename_i hge;simp;omega
  rw[e,List.count_append,List.count_replicate];simp
 intro fuel
 induction fuel with
 | zero =>
  intro listed a W hJ h2 hc;have hc0:=cnt listed hJ.lsize h2;refine fin 0 listed a W hJ h2 (fun i hi => ?_) oo;rcases hcc:listed.getD i false with _|_
  ·exfalso;have hlt:i<listed.size:=by rw[hJ.lsize];omega
   rw[Aj,AK hlt]at hcc;have:false∈listed.toList:=by
    have h3:listed[i]=false:=hcc;rw[<- h3];simp
   have:=BI.2 this;omega
  ·rfl
 | succ fuel ih =>
  intro listed a W hJ h2 hc;have hc0:=cnt listed hJ.lsize h2;by_cases h1:∀ i,i<n->listed.getD i false=true
  ·exact fin _ listed a W hJ h2 h1 oo
  ·have key:∀ i∈Region.ready .any ops listed,i<n:=by
    intro i hi;rcases AJ i n with h|h
    ·exact h
    ·exfalso;refine h1 fun j hj => ?_
     obtain⟨_,o,ho,hdep⟩:=mem_ready.1 hi;obtain⟨e,he,hek,hb⟩:=tailFit.waits htail ho h (show j<i by omega);rw[<- hek];exact hdep e he hb
   refine⟨fun hr => ?_,fun i hi => ?_⟩
   ·exfalso;refine h1 fun i hi => ?_
    induction i using Nat.strongRecOn with
    | _ i ih2 =>
     rcases hcc:listed.getD i false with _|_
     ·exfalso;have hm:i∈Region.ready .any ops listed:=by
       refine mem_ready.2 ⟨?_,ops[i]'oo,by simp[show i<ops.size by omega],fun e he hb => ?_⟩
       ·rw[Aj]at hcc ⊢;have:i<listed.size:=by rw[hJ.lsize];omega
        rw[AK this]at hcc ⊢;exact hcc
       ·have h3:=quietFit.edge hfit (i:=i) (o:=ops[i]'oo) (by simp[show i<ops.size by omega]) he hb;exact ih2 e.on h3 oo
      rw[hr]at hm;cases hm
     ·rfl
   ·have hin:=key i hi;obtain⟨h4,o,ho,hdep⟩:=mem_ready.1 hi;have hq:kU P ops (ops.toList.take n) Sp tmps w i o:=by
     have:=allQuiet.get (ops.toList.take n) 0 hall i o (by rw[AW,if_pos hin];simpa using ho)
     rwa[Bj]at this
    refine wpOp_mono (fun a' W' hJ'=>ih _ a' W' hJ' (fun j hj => ?_) ?_) (yP hmono hfit hq (fun j p hp hl=>by
     have hjn:j<n:=by
      rcases AJ j n with h|h
      ·exact h
      ·rw[h2 j h]at hl;cases hl
     refine Bk (i:=j) ?_;rw[AW,if_pos hjn];simpa using hp) ho hJ hdep)
    ·have:=h2 j hj;rw[Aj]at this ⊢;rw[AL oo];exact this
    ·have hlt:i<listed.size:=by rw[hJ.lsize];exact(Ag.1 ho).1
     rw[Aj,AK hlt]at h4;have h5:listed.toList[i]'(by simpa using hlt)=false:=by simpa using h4
     rw[Cg];have h6:=DR (l:=listed.toList) (a:=true) (b:=false) (i:=i) (by simpa using hlt);have h7:0<listed.toList.count false:=BI.2 (by rw[<- h5];exact CK _);rw[h6,h5];show List.count false listed.toList-1+0<=fuel;omega
theorem jaL{P:Program}{ops:Array Oper}{Q:Exit->Act->World->Prop}{id:Nat}{tmps:Array Value}{ds:List Deferred}{w:World}(n:Nat)(Sp:Nat->zY)(hm:P.follows .mixedOrders=true)
  (hmono:∀ i v W W',Sp i v W->Below W.heap.size W W'->Sp i v W') (hn:n<=ops.size) (htail:tailFit ops n=true) (hfit:quietFit ops tmps.size=true) (hall:allQuiet P ops (ops.toList.take n) Sp tmps w 0 (ops.toList.take n))
  (hdone:∀ W,Aa w W->zp Sp (fun T W=>wpList P ops Q (ops.toList.drop n) ⟨T,ds⟩ W) W 0 (ops.toList.take n) tmps):(Code.region id ops true).wp P Q ⟨tmps,ds⟩ w:=by
 have e:∀ a W,wpOps P ops Q (List.range' n (ops.size-n)) a W=wpList P ops Q (ops.toList.drop n) a W:=fun a W=>by
  have h:=wpOps_eq_wpList (P:=P) (ops:=ops) (Q:=Q) (ops.toList.drop n) n (fun j=>by rw[DK];simp);rw[CL,Cl]at h;rw[h]
 refine wp_region_any hm (vbK hmono hn htail hall hfit (fun W hW=>by simp only[e];exact hdone W hW) ops.size _ _ _ ⟨Below.drew (Au _ _),rfl,rfl,by simp,?_,fun _ _=>rfl⟩ (fun i _ => ?_) ?_)
 ·intro i o t _ _ h;rw[Aj]at h;by_cases hi:i<ops.size<;>simp[hi]at h
 ·rw[Aj];by_cases hi:i<ops.size<;>simp[hi]
 ·simp
def ve:List Oper->List Value->Array Value->Array Value
 | o :: l,v :: vs,T=>ve l vs (match o.dst with|some d=>T.setIfInBounds d v|none=>T)
 | _,_,T=>T
def jag(ops:Array Oper)(vals:List Value)(ρ:Operand->Value):List Edge->Prop
 | []=>True
 | e :: l=>(Region.binds .any e=true->match ops[e.on]? with|some o=>(match o.dst with|some t=>ρ (.tmp t)=vals.getD e.on undef|none=>True)|none=>True)/\jag ops vals ρ l
def vcX(P:Program)(ops:Array Oper)(vals:List Value)(tmps:Array Value)(w:World)(o:Oper)(v:Value):Prop :=
 ∀(ρ:Operand->Value) (W:World),Aa w W->(∀ v,ρ (.const v)=v)->(∀ g,ρ (.global g)=.pointer (some ⟨g,0,none⟩))->(∀ f,ρ (.func f)=.func (.func f) #[] #[]) ->
  (∀ t,vg ops.toList t=true->ρ (.tmp t)=tmps.getD t undef)->jag ops vals ρ o.after.toList ->
  if Region.wanted o (jf ops ρ) then yi P (fun u _=>o.dst=none\/u=v) W ((execOp ρ o).run P W) else v=undef
def allVals(P:Program)(ops:Array Oper)(vals:List Value)(tmps:Array Value)(w:World):List Oper->List Value->Prop
 | o :: l,v :: vs=>vcX P ops vals tmps w o v/\allVals P ops vals tmps w l vs
 | [],_=>True
 | _ :: _,[]=>False
theorem vC9{P:Program}{ops:Array Oper}{vals:List Value}{tmps:Array Value}{w:World}{o:Oper}{l:List Oper}{v:Value}{vs:List Value}(h:vcX P ops vals tmps w o v)(h':allVals P ops vals tmps w l vs):allVals P ops vals tmps w (o :: l) (v :: vs):=⟨h,h'⟩
theorem jaM{ops:Array Oper}{vals:List Value}{ρ:Operand->Value}{W:World}:∀(l:List Edge),qj ops (fun i v _=>(∀ o,ops[i]? = some o->o.dst=none)\/v=vals.getD i undef) ρ W l->jag ops vals ρ l
 | [],_=>trivial
 | e :: l,h=>by
  refine⟨fun hb => ?_,jaM l h.2⟩;have h1:=h.1 hb
  cases ho:ops[e.on]? with
  | none=>trivial
  | some o =>
   simp only[ho]at h1 ⊢
   cases hd:o.dst with
   | none=>trivial
   | some t =>
    simp only[hd]at h1 ⊢;rcases h1 with h1|h1
    ·have:=h1 o rfl;rw[hd]at this;cases this
    ·exact h1
theorem qa8{P:Program}{S S':zY}{w:World}{r:Result Next}(h:∀ v w,S v w->S' v w)(hq:yi P S w r):yi P S' w r:=by
 unfold yi at *;split at hq
 ·exact⟨h _ _ hq.1,hq.2⟩
 ·exact⟨h _ _ hq.1,hq.2⟩
 ·exact⟨hq.1,hq.2.mono fun e w' ⟨v,h1,h2,h3⟩=>⟨v,h1,h _ _ h2,h3⟩⟩
 ·exact hq.elim
theorem allVals.quiet{P:Program}{ops:Array Oper}{vals:List Value}{tmps:Array Value}{w:World}:∀(l:List Oper) (vs:List Value) (k:Nat),allVals P ops vals tmps w l vs->(∀ i,vs[i]? = vals[k+i]?)->(∀ i,l[i]? = ops[k+i]?) ->
  allQuiet P ops ops.toList (fun i v _=>(∀ o,ops[i]? = some o->o.dst=none)\/v=vals.getD i undef) tmps w k l
 | [],_,_,_,_,_=>trivial
 | o :: l,[],_,h,_,_=>h.elim
 | o :: l,v :: vs,k,h,hv,ho=>by
  have hv0:vals.getD k undef=v:=by have:=hv 0;simp at this;simp[<- this]
  have ho0:ops[k]? = some o:=by have:=ho 0;simp at this;exact this.symm
  refine⟨?_,allVals.quiet l vs (k+1) h.2 (fun i=>by have:=hv (i+1);simpa[Dn,Ci 1 i]using this) (fun i=>by have:=ho (i+1);simpa[Dn,Ci 1 i]using this)⟩;intro ρ W h1 h2 h3 h4 h5 h6;have h7:=h.1 ρ W h1 h2 h3 h4 h5 (jaM _ h6);split at h7
  ·rename_i hw;rw[if_pos hw];refine qa8 (fun u w' hu => ?_) h7;rcases hu with hu|hu
   ·exact .inl fun p hp=>by rw[ho0]at hp;cases hp;exact hu
   ·exact .inr (by rw[hv0];exact hu)
  ·rename_i hw;rw[if_neg hw];exact .inr (by rw[hv0];exact h7.symm)
theorem vaa{Sp:Nat->zY}{K:Array Value->World->Prop}{W:World}:∀(l:List Oper) (vs:List Value) (k:Nat) (T:Array Value),l.length=vs.length->(∀ i o t v,l[i]? = some o->o.dst=some t->Sp (k+i) v W->some v=vs[i]?)->K (ve l vs T) W->zp Sp K W k l T
 | [],[],_,_,_,_,h=>h
 | [],_ :: _,_,_,hl,_,_=>by simp at hl
 | _ :: _,[],_,_,hl,_,_=>by simp at hl
 | o :: l,v :: vs,k,T,hl,hs,h=>by
  unfold zp;have ih:∀ T,K (ve l vs T) W->zp Sp K W (k+1) l T:=fun T h=>vaa l vs (k+1) T (by simpa using hl) (fun i o' t u h1 h2 h3=>by
   have:=hs (i+1) o' t u (by simpa using h1) h2 (by rw[show k+(i+1)=k+1+i by omega];exact h3);simpa using this) h
  cases hd:o.dst with
  | none=>simp only[ve,hd]at h;exact ih T h
  | some t =>
   intro u hu;have:=hs 0 o t u rfl hd hu;simp at this;subst this;simp only[ve,hd]at h;exact ih _ h
theorem jc{P:Program}{ops:Array Oper}{Q:Exit->Act->World->Prop}{id:Nat}{tmps:Array Value}{ds:List Deferred}{w:World}(vals:List Value)(hm:P.follows .mixedOrders=true)
  (hfit:quietFit ops tmps.size=true) (hl:ops.toList.length=vals.length) (hall:allVals P ops vals tmps w ops.toList vals)
  (hdone:∀ W,Aa w W->Q .normal ⟨ve ops.toList vals tmps,ds⟩ W):(Code.region id ops true).wp P Q ⟨tmps,ds⟩ w:=by
 refine zaK (fun i v _=>(∀ o,ops[i]? = some o->o.dst=none)\/v=vals.getD i undef) hm (fun _ _ _ _ h _=>h) hfit (allVals.quiet _ _ 0 hall (fun i=>by simp) (fun i=>by simp)) fun W hW => ?_
 refine vaa _ _ 0 _ hl (fun i o t v h1 h2 h3 => ?_) (hdone W hW);rw[Bj]at h3;rcases h3 with h3|h3
 ·have:=h3 o (by simpa using h1);rw[h2]at this;cases this
 ·have hi:i<vals.length:=by rw[<- hl];exact(CQ.1 h1).1
  rw[h3];simp[hi]
theorem zk{P:Program}{ops:Array Oper}{Q:Exit->Act->World->Prop}{id:Nat}{tmps:Array Value}{ds:List Deferred}{w:World}(vals:List Value)
  (hfit:quietFit ops tmps.size=true) (hl:ops.toList.length=vals.length) (hall:allVals P ops vals tmps w ops.toList vals)
  (hdone:∀ W,Aa w W->Q .normal ⟨ve ops.toList vals tmps,ds⟩ W):(Code.region id ops false).wp P Q ⟨tmps,ds⟩ w:=by
 refine kai (fun i v _=>(∀ o,ops[i]? = some o->o.dst=none)\/v=vals.getD i undef) (fun _ _ _ _ h _=>h) hfit (allVals.quiet _ _ 0 hall (fun i=>by simp) (fun i=>by simp)) fun W hW => ?_
 refine vaa _ _ 0 _ hl (fun i o t v h1 h2 h3 => ?_) (hdone W hW);rw[Bj]at h3;rcases h3 with h3|h3
 ·have:=h3 o (by simpa using h1);rw[h2]at this;cases this
 ·have hi:i<vals.length:=by rw[<- hl];exact(CQ.1 h1).1
  rw[h3];simp[hi]
end Go.Proofs.YtdiecekagiledaaGreatDoor
