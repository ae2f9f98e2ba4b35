/-
 Regions that draw their order and end in stores, some of whose values may come up late, among the stores (the parts of a tuple).
-/
import Derived.ControlIn
import Derived.Test.YtnokpldomlmamaaGreatDoorKTail2
set_option linter.unusedSimpArgs false
set_option linter.unusedVariables false
namespace Go.Proofs.YtnokpldomlmamaaGreatDoor
open Go Go.RowKit Go.Lib Go.Shelf
/-- Only the way on. -/
def normalQ (Q:Exit→Act→World→Prop):Exit→Act→World→Prop
 | .normal,a,w=>Q .normal a w
 | _,_,_=>False
def isPure (o:Oper):Bool:=(match o.op with | .extract _ _=>true | .move _=>true | .assign _=>true | _=>false) && o.guard.isNone
def isSimple (o:Oper):Bool:=(match o.op with | .extract _ _=>true | .move _=>true | .assign _=>true | .store _ _ _=>true | .indexAddr _ _ _=>true | _=>false) && o.guard.isNone
theorem isPure_simple {o:Oper} (h:isPure o=true):isSimple o=true:=by
 unfold isPure at h
 unfold isSimple
 rw [Bool.and_eq_true] at h ⊢
 refine ⟨?_,h.2⟩
 have h1:=h.1
 cases ho:o.op <;> simp [ho] at h1 ⊢
theorem isSimple_guard {o:Oper} (h:isSimple o=true):o.guard=none:=by
 unfold isSimple at h
 rw [Bool.and_eq_true] at h
 simpa using h.2
theorem exec_congr {ρ ρ':Operand→Value} {o:Oper} (h:isSimple o=true) (ha:∀ x ∈ o.op.operands,ρ x=ρ' x):execOp ρ o=execOp ρ' o:=by
 unfold isSimple at h
 rw [Bool.and_eq_true] at h
 have h1:=h.1
 cases ho:o.op with
 | extract x i =>
  have:=ha x (by simp [ho,Op.operands])
  simp [execOp,ho,this]
 | move x =>
  have:=ha x (by simp [ho,Op.operands])
  simp [execOp,ho,this]
 | assign x =>
  have:=ha x (by simp [ho,Op.operands])
  simp [execOp,ho,this]
 | store t x y =>
  have e1:=ha x (by simp [ho,Op.operands])
  have e2:=ha y (by simp [ho,Op.operands])
  simp [execOp,ho,e1,e2]
 | indexAddr t x y =>
  have e1:=ha x (by simp [ho,Op.operands])
  have e2:=ha y (by simp [ho,Op.operands])
  simp [execOp,ho,e1,e2]
 | _=>simp [ho] at h1
theorem simple_run {P:Program} {ρ:Operand→Value} {o:Oper} {W W':World} {n:Next} (h:isSimple o=true) (hr:(execOp ρ o).run P W = .ok n W'):n = .skip∨∃ v,n = .value v:=by
 unfold isSimple at h
 rw [Bool.and_eq_true] at h
 have h1:=h.1
 cases ho:o.op with
 | extract x i =>
  have e:execOp ρ o=(Instr.extract (ρ x) i >>= fun v=>pure (.value v)):=by simp only [execOp,ho]
  rw [e,Sem.run_bind] at hr
  cases hz:Sem.run P (Instr.extract (ρ x) i) W with
  | halt y W1=>rw [hz] at hr;cases hr
  | ok v W1=>rw [hz] at hr;simp [Result.andThen] at hr;exact .inr ⟨v,hr.1.symm⟩
 | move x=>simp [execOp,ho,go_sem] at hr;exact .inr ⟨_,hr.1.symm⟩
 | assign x=>simp [execOp,ho,go_sem] at hr;exact .inr ⟨_,hr.1.symm⟩
 | store t x y =>
  have e:execOp ρ o=(Instr.storeAt t (ρ x) (ρ y) >>= fun _=>pure .skip):=by simp only [execOp,ho]
  rw [e,Sem.run_bind] at hr
  cases hz:Sem.run P (Instr.storeAt t (ρ x) (ρ y)) W with
  | halt y W1=>rw [hz] at hr;cases hr
  | ok v W1=>rw [hz] at hr;simp [Result.andThen] at hr;exact .inl hr.1.symm
 | indexAddr t x y =>
  have e:execOp ρ o=(Instr.indexAt t (ρ x) (ρ y) >>= fun v=>pure (.value v)):=by simp only [execOp,ho]
  rw [e,Sem.run_bind] at hr
  cases hz:Sem.run P (Instr.indexAt t (ρ x) (ρ y)) W with
  | halt y W1=>rw [hz] at hr;cases hr
  | ok v W1=>rw [hz] at hr;simp [Result.andThen] at hr;exact .inr ⟨v,hr.1.symm⟩
 | _=>simp [ho] at h1
theorem pure_run {P:Program} {ρ:Operand→Value} {o:Oper} {W W':World} {n:Next} (h:isPure o=true) (hr:(execOp ρ o).run P W = .ok n W'):∃ v,n = .value v∧∀ X,(execOp ρ o).run P X = .ok (.value v) X:=by
 unfold isPure at h
 rw [Bool.and_eq_true] at h
 have h1:=h.1
 cases ho:o.op with
 | extract x i =>
  cases hx:ρ x with
  | tuple vs =>
   cases hv:vs[i]? with
   | none=>simp [execOp,ho,go_sem,Instr.extract,hx,hv] at hr
   | some u=>simp [execOp,ho,go_sem,Instr.extract,hx,hv] at hr;exact ⟨u,hr.1.symm,fun X=>by simp [execOp,ho,go_sem,Instr.extract,hx,hv]⟩
  | _=>simp [execOp,ho,go_sem,Instr.extract,hx] at hr
 | move x=>simp [execOp,ho,go_sem] at hr;exact ⟨_,hr.1.symm,fun X=>by simp [execOp,ho,go_sem]⟩
 | assign x=>simp [execOp,ho,go_sem] at hr;exact ⟨_,hr.1.symm,fun X=>by simp [execOp,ho,go_sem]⟩
 | _=>simp [ho] at h1
/-- An operation waits for another one. -/
def waits (o:Oper) (j:Nat):Bool:=o.after.any fun e=>decide (e.on=j) && Region.binds .any e
theorem waits_get {o:Oper} {j:Nat} (h:waits o j=true):∃ e ∈ o.after,e.on=j∧Region.binds .any e=true:=by
 obtain ⟨e,he,h3⟩:=Array.any_eq_true'.1 h
 simp only [Bool.and_eq_true,decide_eq_true_eq] at h3
 exact ⟨e,he,h3⟩
/-- An operation waits for another one, if need be through others. -/
def waitsT (ops:Array Oper):Nat→Oper→Nat→Bool
 | 0,o,j=>waits o j
 | f+1,o,j=>waits o j || o.after.any fun e=>Region.binds .any e && (match ops[e.on]? with | some p=>waitsT ops f p j | none=>false)
/-- Whatever a listed operation waits for is listed. -/
def Closed (ops:Array Oper) (listed:Array Bool):Prop:=∀ i (o:Oper),ops[i]? = some o→listed.getD i false=true→∀ e ∈ o.after,Region.binds .any e=true→listed.getD e.on false=true
theorem waitsT_listed {ops:Array Oper} {listed:Array Bool} (hc:Closed ops listed):∀ (f:Nat) (o:Oper) (j:Nat),(∀ e ∈ o.after,Region.binds .any e=true→listed.getD e.on false=true)→waitsT ops f o j=true→listed.getD j false=true
 | 0,o,j,hd,h=>by
  obtain ⟨e,he,hek,hb⟩:=waits_get h
  rw [← hek];exact hd e he hb
 | f+1,o,j,hd,h=>by
  unfold waitsT at h
  rw [Bool.or_eq_true] at h
  rcases h with h | h
  ·obtain ⟨e,he,hek,hb⟩:=waits_get h
   rw [← hek];exact hd e he hb
  ·obtain ⟨e,he,h3⟩:=Array.any_eq_true'.1 h
   rw [Bool.and_eq_true] at h3
   cases hp:ops[e.on]? with
   | none=>rw [hp] at h3;cases h3.2
   | some p =>
    rw [hp] at h3
    exact waitsT_listed hc f p j (hc e.on p hp (hd e he h3.1)) h3.2
theorem closed_set {ops:Array Oper} {listed:Array Bool} {i:Nat} {o:Oper} (hc:Closed ops listed) (ho:ops[i]? = some o) (hd:∀ e ∈ o.after,Region.binds .any e=true→listed.getD e.on false=true):Closed ops (listed.setIfInBounds i true):=by
 intro j p hp hj e he hb
 refine listed_keep ?_
 rcases listed_set hj with rfl | hj
 ·rw [ho] at hp;cases hp;exact hd e he hb
 ·exact hc j p hp hj e he hb
/-- No operand is the place of one of these operations. -/
def clearOf (ops:Array Oper) (o:Oper) (D:List Nat):Bool:=o.op.operands.all fun x=>D.all fun c=>match x,ops[c]? with | .tmp t,some p=>p.dst != some t | _,_=>true
theorem clearOf_get {ops:Array Oper} {o:Oper} {D:List Nat} (h:clearOf ops o D=true) {t c:Nat} (hx:Operand.tmp t ∈ o.op.operands) (hc:c ∈ D) {p:Oper} (hp:ops[c]? = some p):p.dst≠some t:=by
 unfold clearOf at h
 rw [Array.all_eq_true_iff_forall_mem] at h
 have h1:=h _ hx
 rw [List.all_eq_true] at h1
 have h2:=h1 c hc
 rw [hp] at h2
 simpa using h2
/-- The operations in C may come up late; those from n on wait, each, for all others ahead of them. -/
def lateFit (ops:Array Oper) (n:Nat) (C:List Nat):Bool :=
 (C.all fun c=>decide (c<n) && match ops[c]? with | some o=>isPure o && o.dst.isSome && clearOf ops o C && clearOf ops o (List.range' n (ops.size - n)) && (C.all fun j => !waits o j) | none=>false) &&
 (List.range' n (ops.size - n)).all fun i=>match ops[i]? with
  | some o=>isSimple o && ((List.range i).all fun j=>C.contains j || waitsT ops ops.size o j) && clearOf ops o (C.filter fun c => !waits o c)
  | none=>false
structure LateC (ops:Array Oper) (n:Nat) (C:List Nat) (c:Nat) (o:Oper):Prop where
 lt:c<n
 pure_:isPure o=true
 dst:∃ t,o.dst=some t
 own:clearOf ops o C=true
 tail:clearOf ops o (List.range' n (ops.size - n))=true
 free:∀ j ∈ C,waits o j=false
theorem lateFit_late {ops:Array Oper} {n:Nat} {C:List Nat} (h:lateFit ops n C=true) {c:Nat} {o:Oper} (hc:c ∈ C) (ho:ops[c]? = some o):LateC ops n C c o:=by
 unfold lateFit at h
 rw [Bool.and_eq_true,List.all_eq_true] at h
 have h1:=h.1 c hc
 rw [ho] at h1
 simp only [Bool.and_eq_true,decide_eq_true_eq,List.all_eq_true,Bool.not_eq_true'] at h1
 obtain ⟨h0,⟨⟨⟨h2,h3⟩,h4⟩,h5⟩,h6⟩:=h1
 exact ⟨h0,h2,Option.isSome_iff_exists.1 h3,h4,h5,h6⟩
structure TailI (ops:Array Oper) (C:List Nat) (i:Nat) (o:Oper):Prop where
 simple:isSimple o=true
 wait:∀ j,j<i→j ∉ C→waitsT ops ops.size o j=true
 own:clearOf ops o (C.filter fun c => !waits o c)=true
theorem lateFit_tail {ops:Array Oper} {n:Nat} {C:List Nat} (h:lateFit ops n C=true) {i:Nat} {o:Oper} (hi:n≤i) (ho:ops[i]? = some o):TailI ops C i o:=by
 unfold lateFit at h
 rw [Bool.and_eq_true,List.all_eq_true,List.all_eq_true] at h
 have hlt:=(Array.getElem?_eq_some_iff.1 ho).1
 have h1:=h.2 i (by rw [List.mem_range'_1];omega)
 rw [ho] at h1
 simp only [Bool.and_eq_true,List.all_eq_true,Bool.or_eq_true] at h1
 obtain ⟨⟨h2,h3⟩,h4⟩:=h1
 exact ⟨h2,fun j hj hC=>(h3 j (List.mem_range.2 hj)).resolve_left (by simpa using hC),h4⟩
theorem put_get {a:Act} {d:Option Nat} {v:Value} {t:Nat}:(a.put d v).tmps[t]? = if d=some t then (if t<a.tmps.size then some v else none) else a.tmps[t]? := by
 unfold Act.put
 cases d with
 | none=>simp
 | some s =>
  by_cases h:s=t
  ·subst h
   simp [Array.getElem?_setIfInBounds_self]
  ·simp [h,Array.getElem?_setIfInBounds_ne h]
theorem put_size {a:Act} {d:Option Nat} {v:Value}:(a.put d v).tmps.size=a.tmps.size:=by unfold Act.put;split <;> simp
theorem put_defers {a:Act} {d:Option Nat} {v:Value}:(a.put d v).defers=a.defers:=by unfold Act.put;split <;> rfl
theorem eval_congr {a b:Act} {o:Oper} (h:∀ t,Operand.tmp t ∈ o.op.operands→a.tmps[t]? = b.tmps[t]?):∀ x ∈ o.op.operands,a.eval x=b.eval x:=by
 intro x hx
 cases x with
 | tmp t=>rw [eval_tmp,eval_tmp,Array.getD_eq_getD_getElem?,Array.getD_eq_getD_getElem?,h t hx]
 | _=>rfl
/-- The stores, with the late operations among them. -/
theorem wpAny_late {P:Program} {ops:Array Oper} {Q:Exit→Act→World→Prop} {n N:Nat} {C:List Nat} (hfit:quietFit ops N=true) (hlate:lateFit ops n C=true) :
  ∀ (fuel:Nat) (listed:Array Bool) (a:Act) (W:World) (k:Nat) (T:Array Value),n≤k→k≤ops.size→listed.size=ops.size→Closed ops listed→(∀ i,i<k→i ∉ C→listed.getD i false=true)→(∀ i,k≤i→listed.getD i false=false) →
   a.tmps.size=N→T.size=N→(∀ t,(∀ c (o:Oper),c ∈ C→ops[c]? = some o→listed.getD c false=false→o.dst≠some t)→a.tmps[t]? = T[t]?) →
   (∀ c (o:Oper) t,c ∈ C→ops[c]? = some o→listed.getD c false=false→o.dst=some t→∀ X,(execOp a.eval o).run P X = .ok (.value (T.getD t undef)) X) →
   listed.toList.count false≤fuel→wpOps P ops (normalQ Q) (List.range' k (ops.size - k)) ⟨T,a.defers⟩ W→wpAny P .any ops Q fuel listed a W:=by
 have hdone:∀ (listed:Array Bool) (a:Act) (W:World) (k:Nat) (T:Array Value),n≤k→k≤ops.size→listed.size=ops.size→(∀ i,k≤i→listed.getD i false=false)→a.tmps.size=N→T.size=N→(∀ t,(∀ c (o:Oper),c ∈ C→ops[c]? = some o→listed.getD c false=false→o.dst≠some t)→a.tmps[t]? = T[t]?) →
   wpOps P ops (normalQ Q) (List.range' k (ops.size - k)) ⟨T,a.defers⟩ W→Region.ready .any ops listed=[]→Q .normal a W:=by
  intro listed a W k T hnk hk hs h2 hsa hsT hag h hr
  have hl:∀ i,i<ops.size→listed.getD i false=true:=by
   intro i
   induction i using Nat.strongRecOn with
   | _ i ih =>
    intro hi
    rcases hc:listed.getD i false with _ | _
    ·exfalso
     have hm:i ∈ Region.ready .any ops listed:=by
      refine mem_ready.2 ⟨?_,ops[i],by simp [hi],fun e he hb => ?_⟩
      ·rw [Array.getD_eq_getD_getElem?] at hc ⊢
       have:i<listed.size:=by rw [hs];exact hi
       rw [Array.getElem?_eq_getElem this] at hc ⊢
       exact hc
      ·have h1:=quietFit.edge hfit (i:=i) (o:=ops[i]) (by simp [hi]) he hb
       exact ih e.on h1 (by omega)
     rw [hr] at hm;cases hm
    ·rfl
  have hkk:k=ops.size:=by
   rcases Nat.lt_or_ge k ops.size with hlt | hge
   ·have:=hl k hlt;rw [h2 k (Nat.le_refl _)] at this;cases this
   ·omega
  have ht:a.tmps=T:=Array.ext_getElem? fun t=>hag t fun c o hc ho hn=>by
   have:=hl c (Array.getElem?_eq_some_iff.1 ho).1
   rw [hn] at this;cases this
  subst hkk
  rw [Nat.sub_self] at h
  have h':normalQ Q .normal ⟨T,a.defers⟩ W:=h
  rw [← ht] at h'
  exact h'
 intro fuel
 induction fuel with
 | zero =>
  intro listed a W k T hnk hk hs hclo h1 h2 hsa hsT hag hpu hc h
  have hr:Region.ready .any ops listed=[]:=by
   rw [List.eq_nil_iff_forall_not_mem]
   intro i hi
   have h3:=ready_listed hi hs
   obtain ⟨_,o,ho,_⟩:=mem_ready.1 hi
   have hlt:i<listed.size:=by rw [hs];exact (Array.getElem?_eq_some_iff.1 ho).1
   rw [Array.getD_eq_getD_getElem?,Array.getElem?_eq_getElem hlt] at h3
   have:false ∈ listed.toList:=by
    have h4:listed[i]=false:=h3
    rw [← h4];simp
   have:=List.count_pos_iff.2 this
   omega
  exact ⟨hr,hdone listed a W k T hnk hk hs h2 hsa hsT hag h hr⟩
 | succ fuel ih =>
  intro listed a W k T hnk hk hs hclo h1 h2 hsa hsT hag hpu hc h
  refine ⟨fun hr=>hdone listed a W k T hnk hk hs h2 hsa hsT hag h hr,fun i hi => ?_⟩
  have hnl:=ready_listed hi hs
  obtain ⟨h4,o,ho,hdep⟩:=mem_ready.1 hi
  have hlt:i<listed.size:=by rw [hs];exact (Array.getElem?_eq_some_iff.1 ho).1
  have hcnt:(listed.setIfInBounds i true).toList.count false≤fuel:=by
   rw [Array.getD_eq_getD_getElem?,Array.getElem?_eq_getElem hlt] at h4
   have h5:listed.toList[i]'(by simpa using hlt)=false:=by simpa using h4
   rw [Array.toList_setIfInBounds]
   have h6:=List.count_set (l:=listed.toList) (a:=true) (b:=false) (i:=i) (by simpa using hlt)
   have h7:0<listed.toList.count false:=List.count_pos_iff.2 (by rw [← h5];exact List.getElem_mem _)
   rw [h6,h5]
   show List.count false listed.toList - 1+0≤fuel
   omega
  rcases Nat.lt_or_ge i k with hik | hik
  ·-- a late one
   have hC:i ∈ C:=by
    rcases Decidable.em (i ∈ C) with h | h
    ·exact h
    ·have:=h1 i hik h;rw [hnl] at this;cases this
   have hL:=lateFit_late hlate hC ho
   obtain ⟨t,ht⟩:=hL.dst
   have hrun:=hpu i o t hC ho hnl ht W
   have htN:t<N:=quietFit.lt hfit ho ht
   unfold wpOp
   simp only [ho]
   rw [if_pos (by simp [Region.wanted,isSimple_guard (isPure_simple hL.pure_)])]
   left
   unfold Oper.wp
   rw [hrun,Oper.upon_value]
   refine ih _ _ W k T hnk hk (by rw [Array.size_setIfInBounds];exact hs) (closed_set hclo ho hdep) (fun j hj hjC=>listed_keep (h1 j hj hjC)) (fun j hj => ?_) (by rw [put_size];exact hsa) hsT (fun s hs' => ?_) (fun c p s hcC hp hcn hps X => ?_) hcnt (by rw [put_defers];exact h)
   ·rcases hcc:(listed.setIfInBounds i true).getD j false with _ | _
    ·rfl
    ·have:=(listed_set hcc).resolve_left (by omega);rw [h2 j hj] at this;cases this
   ·rw [put_get]
    by_cases hst:o.dst=some s
    ·rw [if_pos hst]
     rw [ht] at hst;cases hst
     have h8:=Nat.lt_of_lt_of_eq htN hsa.symm
     have h9:=Nat.lt_of_lt_of_eq htN hsT.symm
     rw [if_pos h8,Array.getD_eq_getD_getElem?,Array.getElem?_eq_getElem h9];rfl
    ·rw [if_neg hst]
     refine hag s fun c p hcC hp hcn => ?_
     by_cases hci:c=i
     ·subst hci
      rw [ho] at hp;cases hp
      exact hst
     ·refine hs' c p hcC hp ?_
      rcases hcc:(listed.setIfInBounds i true).getD c false with _ | _
      ·rfl
      ·have:=(listed_set hcc).resolve_left hci;rw [hcn] at this;cases this
   ·have hcn':listed.getD c false=false:=by
     rcases hcc:listed.getD c false with _ | _
     ·rfl
     ·rw [listed_keep hcc] at hcn;cases hcn
    have hLc:=lateFit_late hlate hcC hp
    rw [← exec_congr (isPure_simple hLc.pure_) (eval_congr fun s' hs' => ?_),hpu c p s hcC hp hcn' hps X]
    rw [put_get,if_neg (clearOf_get hLc.own hs' hC ho)]
  ·-- the next store
   have hik':i=k:=by
    rcases Nat.eq_or_lt_of_le hik with h | h
    ·exact h.symm
    ·have hkC:k ∉ C:=fun hkC=>by
      have:=(lateFit_late hlate hkC (show ops[k]? = some (ops[k]'(by have:=(Array.getElem?_eq_some_iff.1 ho).1;omega)) by simp)).lt
      omega
     have:=waitsT_listed hclo ops.size o k hdep ((lateFit_tail hlate (by omega) ho).wait k h hkC)
     rw [h2 k (Nat.le_refl _)] at this;cases this
   subst hik'
   have hT:=lateFit_tail hlate hnk ho
   have hilt:i<ops.size:=(Array.getElem?_eq_some_iff.1 ho).1
   obtain ⟨m,hm⟩:∃ m,ops.size - i=m+1:=⟨ops.size - i - 1,by omega⟩
   rw [hm,List.range'_succ,wpOps_cons] at h
   have hex:execOp a.eval o=execOp (Act.eval ⟨T,a.defers⟩) o:=exec_congr hT.simple (eval_congr fun s hs'=>hag s fun c p hcC hp hcn=>by
    rcases hw:waits o c with _ | _
    ·exact clearOf_get hT.own hs' (List.mem_filter.2 ⟨hcC,by rw [hw];rfl⟩) hp
    ·obtain ⟨e,he,hek,hb⟩:=waits_get hw
     have:=hdep e he hb
     rw [hek,hcn] at this;cases this)
   unfold wpOp at h ⊢
   simp only [ho] at h ⊢
   rw [if_pos (by simp [Region.wanted,isSimple_guard hT.simple])] at h ⊢
   left
   have hwp:o.wp P ⟨T,a.defers⟩ W (wpOps P ops (normalQ Q) (List.range' (i+1) m)) (normalQ Q):=by
    rcases h with h | h
    ·exact h
    ·obtain ⟨x,y,hxy⟩:=h.2;exact (show False from hxy).elim
   unfold Oper.wp at hwp ⊢
   rw [← hex] at hwp
   have key:∀ v W',wpOps P ops (normalQ Q) (List.range' (i+1) m) ((⟨T,a.defers⟩:Act).put o.dst v) W'→wpAny P .any ops Q fuel (listed.setIfInBounds i true) (a.put o.dst v) W':=by
    intro v W' h'
    refine ih _ _ W' (i+1) ((⟨T,a.defers⟩:Act).put o.dst v).tmps (by omega) (by omega) (by rw [Array.size_setIfInBounds];exact hs) (closed_set hclo ho hdep) (fun j hj hjC => ?_) (fun j hj => ?_) (by rw [put_size];exact hsa) (by rw [put_size];exact hsT) (fun s hs' => ?_) (fun c p s hcC hp hcn hps X => ?_) hcnt ?_
    ·by_cases hji:j=i
     ·subst hji;exact listed_self hlt
     ·exact listed_keep (h1 j (by omega) hjC)
    ·rcases hcc:(listed.setIfInBounds i true).getD j false with _ | _
     ·rfl
     ·have:=(listed_set hcc).resolve_left (by omega);rw [h2 j (by omega)] at this;cases this
    ·rw [put_get,put_get]
     by_cases hst:o.dst=some s
     ·rw [if_pos hst,if_pos hst];simp only;rw [hsa,hsT]
     ·rw [if_neg hst,if_neg hst]
      refine hag s fun c p hcC hp hcn=>hs' c p hcC hp ?_
      rcases hcc:(listed.setIfInBounds i true).getD c false with _ | _
      ·rfl
      ·have hci:c≠i:=fun e=>by subst e;have:=(lateFit_late hlate hcC ho).lt;omega
       have:=(listed_set hcc).resolve_left hci;rw [hcn] at this;cases this
    ·have hcn':listed.getD c false=false:=by
      rcases hcc:listed.getD c false with _ | _
      ·rfl
      ·rw [listed_keep hcc] at hcn;cases hcn
     have hLc:=lateFit_late hlate hcC hp
     have hci:c≠i:=fun e=>by subst e;have:=hLc.lt;omega
     rw [← exec_congr (isPure_simple hLc.pure_) (eval_congr fun s' hs' => ?_),hpu c p s hcC hp hcn' hps X]
     ·have hne:o.dst≠some s:=quietFit.own hfit hp ho hps (Ne.symm hci)
      rw [Array.getD_eq_getD_getElem?,Array.getD_eq_getD_getElem?,put_get,if_neg hne]
     ·rw [put_get,if_neg (clearOf_get hLc.tail hs' (by rw [List.mem_range'_1];omega) ho)]
    ·rw [put_defers,show ops.size - (i+1)=m by omega]
     have e2:(⟨((⟨T,a.defers⟩:Act).put o.dst v).tmps,a.defers⟩:Act)=(⟨T,a.defers⟩:Act).put o.dst v:=by unfold Act.put;split <;> rfl
     rw [e2];exact h'
   cases hr:(execOp a.eval o).run P W with
   | halt x W' =>
    rw [hr] at hwp
    cases x <;> exact hwp.elim
   | ok nx W' =>
    rw [hr] at hwp
    rcases simple_run hT.simple hr with rfl | ⟨v,rfl⟩
    ·rw [Oper.upon_skip] at hwp ⊢;exact key _ _ hwp
    ·rw [Oper.upon_value] at hwp ⊢;exact key _ _ hwp
/-- Whatever holds through the first n operations in each of their orders, those in C perhaps among what follows. -/
theorem wpAny_inv2 {P:Program} {ops:Array Oper} {Q:Exit→Act→World→Prop} {n N:Nat} {C:List Nat} {J:Array Bool→Act→World→Prop} (hn:n≤ops.size) (hwait:∀ i (o:Oper),n≤i→ops[i]? = some o→∀ j,j<i→j ∉ C→waitsT ops ops.size o j=true) (hls:∀ listed a W,J listed a W→listed.size=ops.size) (hcl:∀ listed a W,J listed a W→Closed ops listed)
  (hstep:∀ listed a W i (o:Oper),J listed a W→(∀ j,n≤j→listed.getD j false=false)→i<n→ops[i]? = some o→listed.getD i false=false→(∀ e ∈ o.after,Region.binds .any e=true→listed.getD e.on false=true)→wpOp P ops Q i (J (listed.setIfInBounds i true)) a W)
  (hdone:∀ fuel listed a W,J listed a W→(∀ j,n≤j→listed.getD j false=false)→(∀ j,j<n→j ∉ C→listed.getD j false=true)→listed.toList.count false≤fuel→wpAny P .any ops Q fuel listed a W) (hfit:quietFit ops N=true) :
  ∀ (fuel:Nat) (listed:Array Bool) (a:Act) (W:World),J listed a W→(∀ i,n≤i→listed.getD i false=false)→(listed.toList.count false≤fuel)→wpAny P .any ops Q fuel listed a W:=by
 intro fuel
 induction fuel with
 | zero =>
  intro listed a W hJ h2 hc
  refine hdone 0 listed a W hJ h2 (fun i hi _ => ?_) hc
  rcases hcc:listed.getD i false with _ | _
  ·exfalso
   have hlt:i<listed.size:=by rw [hls _ _ _ hJ];omega
   rw [Array.getD_eq_getD_getElem?,Array.getElem?_eq_getElem hlt] at hcc
   have:false ∈ listed.toList:=by
    have h3:listed[i]=false:=hcc
    rw [← h3];simp
   have:=List.count_pos_iff.2 this
   omega
  ·rfl
 | succ fuel ih =>
  intro listed a W hJ h2 hc
  by_cases h1:∀ i,i<n→i ∉ C→listed.getD i false=true
  ·exact hdone _ listed a W hJ h2 h1 hc
  ·have key:∀ i ∈ Region.ready .any ops listed,i<n:=by
    intro i hi
    rcases Nat.lt_or_ge i n with h | h
    ·exact h
    ·exfalso
     refine h1 fun j hj hjC => ?_
     obtain ⟨_,o,ho,hdep⟩:=mem_ready.1 hi
     exact waitsT_listed (hcl _ _ _ hJ) ops.size o j hdep (hwait i o h ho j (by omega) hjC)
   refine ⟨fun hr => ?_,fun i hi => ?_⟩
   ·exfalso
    refine h1 fun i hi hiC => ?_
    clear hiC
    induction i using Nat.strongRecOn with
    | _ i ih2 =>
     rcases hcc:listed.getD i false with _ | _
     ·exfalso
      have hm:i ∈ Region.ready .any ops listed:=by
       refine mem_ready.2 ⟨?_,ops[i]'(by omega),by simp [show i<ops.size by omega],fun e he hb => ?_⟩
       ·rw [Array.getD_eq_getD_getElem?] at hcc ⊢
        have:i<listed.size:=by rw [hls _ _ _ hJ];omega
        rw [Array.getElem?_eq_getElem this] at hcc ⊢
        exact hcc
       ·have h3:=quietFit.edge hfit (i:=i) (o:=ops[i]'(by omega)) (by simp [show i<ops.size by omega]) he hb
        exact ih2 e.on h3 (by omega)
      rw [hr] at hm;cases hm
     ·rfl
   ·have hin:=key i hi
    have hnl:=ready_listed hi (hls _ _ _ hJ)
    obtain ⟨h4,o,ho,hdep⟩:=mem_ready.1 hi
    refine wpOp_mono (fun a' W' hJ'=>ih _ a' W' hJ' (fun j hj => ?_) ?_) (hstep listed a W i o hJ h2 hin ho hnl hdep)
    ·have:=h2 j hj
     rw [Array.getD_eq_getD_getElem?] at this ⊢
     rw [Array.getElem?_setIfInBounds_ne (by omega)];exact this
    ·have hlt:i<listed.size:=by rw [hls _ _ _ hJ];exact (Array.getElem?_eq_some_iff.1 ho).1
     rw [Array.getD_eq_getD_getElem?,Array.getElem?_eq_getElem hlt] at h4
     have h5:listed.toList[i]'(by simpa using hlt)=false:=by simpa using h4
     rw [Array.toList_setIfInBounds]
     have h6:=List.count_set (l:=listed.toList) (a:=true) (b:=false) (i:=i) (by simpa using hlt)
     have h7:0<listed.toList.count false:=List.count_pos_iff.2 (by rw [← h5];exact List.getElem_mem _)
     rw [h6,h5]
     show List.count false listed.toList - 1+0≤fuel
     omega
/-- The late values in their places. -/
theorem exists_fill {ops:Array Oper} {N:Nat} (hfit:quietFit ops N=true) {f:Nat→Bool} {V:Nat→Value} {A:Array Value} (hA:A.size=N):∀ D:List Nat,∃ T:Array Value,T.size=N∧(∀ t,(∀ c (o:Oper),c ∈ D→ops[c]? = some o→f c=false→o.dst≠some t)→T[t]? = A[t]?)∧∀ c (o:Oper) t,c ∈ D→ops[c]? = some o→f c=false→o.dst=some t→T.getD t undef=V c
 | []=>⟨A,hA,fun _ _=>rfl,fun c _ _ h=>by cases h⟩
 | d :: D=>by
  obtain ⟨T,hT,h1,h2⟩:=exists_fill hfit (f:=f) (V:=V) hA D
  cases hf:f d with
  | true =>
   refine ⟨T,hT,fun t ht=>h1 t fun c o hc ho hn=>ht c o (List.mem_cons_of_mem _ hc) ho hn,fun c o t hc ho hn hd => ?_⟩
   rcases List.mem_cons.1 hc with rfl | hc
   ·rw [hf] at hn;cases hn
   ·exact h2 c o t hc ho hn hd
  | false =>
   cases hop:ops[d]? with
   | none =>
    refine ⟨T,hT,fun t ht=>h1 t fun c o hc ho hn=>ht c o (List.mem_cons_of_mem _ hc) ho hn,fun c o t hc ho hn hd => ?_⟩
    rcases List.mem_cons.1 hc with rfl | hc
    ·rw [hop] at ho;cases ho
    ·exact h2 c o t hc ho hn hd
   | some p =>
    cases hpd:p.dst with
    | none =>
     refine ⟨T,hT,fun t ht=>h1 t fun c o hc ho hn=>ht c o (List.mem_cons_of_mem _ hc) ho hn,fun c o t hc ho hn hd => ?_⟩
     rcases List.mem_cons.1 hc with rfl | hc
     ·rw [hop] at ho;cases ho;rw [hpd] at hd;cases hd
     ·exact h2 c o t hc ho hn hd
    | some s =>
     have hs:s<N:=quietFit.lt hfit hop hpd
     refine ⟨T.setIfInBounds s (V d),by simpa using hT,fun t ht => ?_,fun c o t hc ho hn hd => ?_⟩
     ·have:s≠t:=fun e=>ht d p List.mem_cons_self hop hf (by rw [hpd,e])
      rw [Array.getElem?_setIfInBounds_ne this]
      exact h1 t fun c o hc ho hn=>ht c o (List.mem_cons_of_mem _ hc) ho hn
     ·by_cases hcd:c=d
      ·subst hcd
       rw [hop] at ho;cases ho
       rw [hpd] at hd;cases hd
       rw [Array.getD_eq_getD_getElem?,Array.getElem?_setIfInBounds_self,if_pos (Nat.lt_of_lt_of_eq hs hT.symm)];rfl
      ·have hne:s≠t:=fun e=>quietFit.own hfit hop ho hpd hcd (by rw [hd,e])
       rw [Array.getD_eq_getD_getElem?,Array.getElem?_setIfInBounds_ne hne,← Array.getD_eq_getD_getElem?]
       exact h2 c o t ((List.mem_cons.1 hc).resolve_left hcd) ho hn hd
def valAt (items:List QItem) (c:Nat):Value:=match items[c]? with | some (.val v)=>v | _=>undef
def isVal (items:List QItem) (c:Nat):Bool:=match items[c]? with | some (.val _)=>true | _=>false
theorem isVal_sp {items:List QItem} {c:Nat} (h:isVal items c=true) {v:Value} {W:World}:itemSp items c v W ↔ v=valAt items c:=by
 unfold isVal at h
 unfold itemSp valAt
 cases hi:items[c]? with
 | none=>rw [hi] at h;cases h
 | some q =>
  cases q with
  | val u=>exact Iff.rfl
  | say S=>rw [hi] at h;cases h
/-- **A region that draws its order: the first n operations are said of by items, their new blocks lie apart; those in C may come up late; the others wait, each, for all ahead of them.** -/
theorem wp_region_late {P:Program} {ops:Array Oper} {Q:Exit→Act→World→Prop} {id:Nat} {tmps:Array Value} {ds:List Deferred} {w:World} (n:Nat) (C:List Nat) (items:List QItem) (L:List Nat) (hm:P.follows .mixedOrders=true)
  (htail:(lateFit ops n C && quietFit ops tmps.size && decide (n≤ops.size) && decide ((ops.toList.take n).length=items.length))=true) (hC:(C.all (isVal items))=true) (hL:newDsts (ops.toList.take n)=L) (hmono:itemsMono items) (hall:allItems P ops (ops.toList.take n) items tmps w (ops.toList.take n) items)
  (hdone:∀ W,Below w.heap.size w W→setItems W (fun T=>Apart L T→wpList P ops (normalQ Q) (ops.toList.drop n) ⟨T,ds⟩ W) (ops.toList.take n) items tmps):(Code.region id ops true).wp P Q ⟨tmps,ds⟩ w:=by
 simp only [Bool.and_eq_true,decide_eq_true_eq] at htail
 obtain ⟨⟨⟨h1,hfit⟩,hn⟩,hlen⟩:=htail
 rw [List.all_eq_true] at hC
 have e:∀ a W,wpOps P ops (normalQ Q) (List.range' n (ops.size - n)) a W=wpList P ops (normalQ Q) (ops.toList.drop n) a W:=fun a W=>by
  have h:=wpOps_eq_wpList (P:=P) (ops:=ops) (Q:=normalQ Q) (ops.toList.drop n) n (fun j=>by rw [List.getElem?_drop];simp)
  rw [List.length_drop,Array.length_toList] at h
  rw [h]
 have hallq:allQuiet P ops (ops.toList.take n) (itemSp items) tmps w 0 (ops.toList.take n):=allItems.quiet _ _ 0 hall (fun i=>by simp)
 have hq:∀ i (o:Oper),i<n→ops[i]? = some o→quietOb P ops (ops.toList.take n) (itemSp items) tmps w i o:=fun i o hi ho=>by
  have:=allQuiet.get (ops.toList.take n) 0 hallq i o (by rw [List.getElem?_take,if_pos hi];simpa using ho)
  rwa [Nat.zero_add] at this
 have hin:∀ (listed:Array Bool),(∀ j,n≤j→listed.getD j false=false)→∀ j (p:Oper),ops[j]? = some p→listed.getD j false=true→p ∈ ops.toList.take n:=by
  intro listed h2 j p hp hl
  have hjn:j<n:=by
   rcases Nat.lt_or_ge j n with h | h
   ·exact h
   ·rw [h2 j h] at hl;cases hl
  refine List.mem_of_getElem? (i:=j) ?_
  rw [List.getElem?_take,if_pos hjn];simpa using hp
 refine wp_region_any hm (wpAny_inv2 (J:=fun listed a W=>QuietAt ops (itemSp items) tmps ds w listed a W∧ApartAt ops listed a W∧Closed ops listed) (C:=C) hn (fun i o hi ho=>(lateFit_tail h1 hi ho).wait) (fun listed a W h=>h.1.lsize) (fun listed a W h=>h.2.2) ?_ ?_ hfit ops.size _ _ _ ⟨⟨Below.drew (Below.refl _ _),rfl,rfl,by simp,?_,fun _ _=>rfl⟩,⟨?_,?_⟩,?_⟩ (fun i _ => ?_) ?_)
 ·intro listed a W i o hJ h2 hi ho hni hdep
  exact wpOp_mono (fun a' W' h=>⟨h.1,h.2,closed_set hJ.2.2 ho hdep⟩) (quietAt_step2 hmono.get hfit (hq i o hi ho) (hin listed h2) ho hJ.1 hJ.2.1 hni hdep)
 ·intro fuel listed a W hJ h2 h3 hc
  obtain ⟨T,hT,hfill,hval⟩:=exists_fill hfit (f:=fun c=>listed.getD c false) (V:=valAt items) hJ.1.size C
  refine wpAny_late hfit h1 fuel listed a W n T (Nat.le_refl _) hn hJ.1.lsize hJ.2.2 h3 h2 hJ.1.size hT (fun t ht=>(hfill t ht).symm) (fun c o t hcC ho hcn hd X => ?_) hc ?_
  ·have hLc:=lateFit_late h1 hcC ho
   have hob:=hq c o hLc.lt ho a.eval W hJ.1.below (fun _=>rfl) (fun _=>rfl) (fun _=>rfl)
    (fun t ht=>by rw [eval_tmp,Array.getD_eq_getD_getElem?,Array.getD_eq_getD_getElem?,hJ.1.same t (fun j p hp hl=>foreign_mem ht (hin listed h2 j p hp hl))])
    (depsSay_of _ fun e he hb p t hp ht=>hJ.1.done e.on p t hp ht (by
     have he':e ∈ o.after:=by simpa using he
     refine h3 e.on ?_ ?_
     ·exact Nat.lt_trans (quietFit.edge hfit ho he' hb) hLc.lt
     ·intro hC'
      have:=hLc.free _ hC'
      have h9:waits o e.on=true:=Array.any_eq_true'.2 ⟨e,he',by simp [hb]⟩
      rw [h9] at this;cases this))
   rw [if_pos (by simp [Region.wanted,isSimple_guard (isPure_simple hLc.pure_)])] at hob
   cases hr:(execOp a.eval o).run P W with
   | halt x W'=>rw [hr] at hob;exact hob.elim
   | ok nx W' =>
    obtain ⟨v,rfl,hX⟩:=pure_run hLc.pure_ hr
    rw [hr] at hob
    have hv:=(isVal_sp (hC c hcC)).1 hob.1
    rw [hX X,hval c o t hcC ho hcn hd,hv]
  ·rw [e,hJ.1.defers]
   have hqd:=setItems_done (items:=items) (K:=fun T W=>Apart L T→wpList P ops (normalQ Q) (ops.toList.drop n) ⟨T,ds⟩ W) (ops.toList.take n) items 0 tmps hlen (fun i=>by simp) (hdone W hJ.1.below)
   have hsame:∀ i (o:Oper) t,i<n→ops[i]? = some o→o.dst=some t→listed.getD i false=true→T[t]? = a.tmps[t]? := fun i o t hi ho ht hl=>hfill t fun c p hcC hp hcn=>by
    have hci:c≠i:=fun e=>by subst e;rw [hl] at hcn;cases hcn
    exact quietFit.own hfit ho hp ht hci
   have h4:=quietDone_use T (ops.toList.take n) 0 tmps hqd (by rw [hT]) (fun i o t ho ht=>by
    rw [Nat.zero_add]
    rw [List.getElem?_take] at ho
    split at ho
    ·rename_i hi
     have ho':ops[i]? = some o:=by simpa using ho
     rcases hl:listed.getD i false with _ | _
     ·have hiC:i ∈ C:=by
       rcases Decidable.em (i ∈ C) with h | h
       ·exact h
       ·have:=h3 i hi h;rw [hl] at this;cases this
      exact (isVal_sp (hC i hiC)).2 (hval i o t hiC ho' hl ht)
     ·have:=hJ.1.done i o t ho' ht hl
      rw [Array.getD_eq_getD_getElem?,hsame i o t hi ho' ht hl,← Array.getD_eq_getD_getElem?]
      exact this
    ·cases ho) (fun t ht=>by
     have h5:=hJ.1.same t (fun j p hp hl=>foreign_mem ht (hin listed h2 j p hp hl))
     rw [← h5]
     refine hfill t fun c p hcC hp hcn => ?_
     have hLc:=lateFit_late h1 hcC hp
     refine foreign_mem ht (List.mem_of_getElem? (i:=c) ?_)
     rw [List.getElem?_take,if_pos hLc.lt];simpa using hp)
   refine h4 ?_
   rw [← hL]
   refine apart_of fun i j o p t s ho hp hno hnp ht hs hne => ?_
   rw [List.getElem?_take] at ho hp
   split at ho
   ·rename_i hi
    split at hp
    ·rename_i hj
     have ho':ops[i]? = some o:=by simpa using ho
     have hp':ops[j]? = some p:=by simpa using hp
     have nl:∀ c (q:Oper),ops[c]? = some q→isNew q=true→c<n→listed.getD c false=true:=fun c q hq' hnq hc'=>by
      refine h3 c hc' fun hcC => ?_
      have hLc:=(lateFit_late h1 hcC hq').pure_
      unfold isNew at hnq
      unfold isPure at hLc
      rw [Bool.and_eq_true] at hnq hLc
      have a1:=hnq.1;have a2:=hLc.1
      cases hqo:q.op <;> simp [hqo] at a1 a2
     have li:=nl i o ho' hno hi
     have lj:=nl j p hp' hnp hj
     rw [Array.getD_eq_getD_getElem?,Array.getD_eq_getD_getElem?,hsame i o t hi ho' ht li,hsame j p s hj hp' hs lj,← Array.getD_eq_getD_getElem?,← Array.getD_eq_getD_getElem?]
     exact hJ.2.1.apart i j o p t s ho' hp' hno hnp ht hs hne li lj
    ·cases hp
   ·cases ho
 ·intro i o t _ _ h
  rw [Array.getD_eq_getD_getElem?] at h
  by_cases hi:i<ops.size <;> simp [hi] at h
 ·intro i o t _ _ _ h
  rw [Array.getD_eq_getD_getElem?] at h
  by_cases hi:i<ops.size <;> simp [hi] at h
 ·intro i j o p t s _ _ _ _ _ _ _ h
  rw [Array.getD_eq_getD_getElem?] at h
  by_cases hi:i<ops.size <;> simp [hi] at h
 ·intro i o _ h
  rw [Array.getD_eq_getD_getElem?] at h
  by_cases hi:i<ops.size <;> simp [hi] at h
 ·rw [Array.getD_eq_getD_getElem?]
  by_cases hi:i<ops.size <;> simp [hi]
 ·simp
end Go.Proofs.YtnokpldomlmamaaGreatDoor
