/-
 Affine: two rows of terms of their own that differ lie apart.; Regions that draw their order in which one operation changes what an earlier one has made (an append in place): what is known parts into before and behind it.; The reference's sources, as a row of its own.; Package affine: raw forms of which Valid says no; the seven ways of the law AffineRefuses.; Raw terms appended to a row of terms of its own; a source appended, as a run; what the law AffineRefuses wants of a region.
-/
import Derived.Test.YtnokpldomlmamaaGreatDoorKAFits
import Derived.Test.YtnokpldomlmamaaGreatDoorKALin
import Derived.Test.YtnokpldomlmamaaGreatDoorKTail3
import Derived.Test.YtnokpldomlmamaaGreatDoorKAMadeW
import Derived.Test.YtnokpldomlmamaaGreatDoorKTail2
import Derived.Test.YtnokpldomlmamaaGreatDoorKAMade
import Derived.Test.YtnokpldomlmamaaGreatDoorKARefA
import Derived.Test.YtnokpldomlmamaaGreatDoorKSane8
import Derived.Test.YtnokpldomlmamaaGreatDoorKExtraR
set_option linter.unusedSimpArgs false
set_option linter.unusedVariables false
set_option maxRecDepth 100000
set_option maxHeartbeats 16000000
namespace Go.Proofs.YtnokpldomlmamaaGreatDoor
open Go Go.RowKit Go.Lib Go.Shelf
theorem own_apart {w:World} {base base' n m:Nat} {e:TypeId} {size:Nat} {v u:Value} {xs ys:List Value} (h:w.ownsRow base e size v n xs) (h':w.ownsRow base' e size u m ys) {j:Nat} {a b:Value} (hx:xs[j]? = some a) (hy:ys[j]? = some b) (hab:a≠b):v.ownBlock=none∨v.ownBlock≠u.ownBlock:=by
 cases hv:v.ownBlock with
 | none=>exact .inl rfl
 | some g =>
  refine .inr fun e => ?_
  have c1:=h.cells hv j a hx
  have c2:=h'.cells e.symm j b hy
  rw [c1] at c2
  exact hab (Option.some.inj c2)
/-- Two lists of terms whose first terms' coefficients differ; or the first one (which grows) lies nowhere. -/
def TApart (H L:List Trm) (ph:Option Addr):Prop:=ph=none∨∃ a b,(uCells (raws H))[1]? = some a∧(uCells (raws L))[1]? = some b∧a≠b
theorem TApart.kept {w w':World} {n0 ch cl:Nat} {ph pl:Option Addr} {H L:List Trm} (ho:OT w n0 ph ch H) (h:OT w n0 pl cl L) (ha:TApart H L ph) (hg:w.grownBy w' (Value.slice ph H.length ch).ownBlock):OT w' n0 pl cl L:=by
 refine World.ownsRow.kept h hg ?_
 rcases ha with rfl | ⟨a,b,h1,h2,h3⟩
 ·cases pl with
  | none=>exact .inl rfl
  | some a=>exact .inr (fun e=>by cases e)
 ·exact own_apart h ho h2 h1 (fun e=>h3 e.symm)
theorem snoc_first {l:List Trm} {t:Trm} {a:Value} (h:(uCells (raws l))[1]? = some a):(uCells (raws (l ++ [t])))[1]? = some a:=by
 rw [raws_app,uCells_app,List.getElem?_append_left]
 ·exact h
 ·exact (List.getElem?_eq_some_iff.1 h).1
theorem TApart.more {H L:List Trm} {t:Trm} {ph:Option Addr} (h:TApart H L ph):TApart H (L ++ [t]) ph:=by
 rcases h with h | ⟨a,b,h1,h2,h3⟩
 ·exact .inl h
 ·exact .inr ⟨a,b,h1,snoc_first h2,h3⟩
theorem tat_lt {T:TypeId} {W:World} {g:Nat} {l:List RT} (h:UAt T W (some ⟨g,0,none⟩) l) (h0:0<l.length):g<W.heap.size:=by
 obtain ⟨g',cur,e,r,_⟩:=h.open h0
 injection e with e;injection e with e
 subst e;exact r.1
theorem uat_grown {T U:TypeId} {W W':World} {p:Option Addr} {l:List RT} {n0 k n:Nat} {v:Value} {xs:List Value} (h:UAt T W p l) (hlt:∀ g,p=some ⟨g,0,none⟩→0<l.length→g<n0) (ho:W.ownsRow n0 U k v n xs) (hg:W.grownBy W' v.ownBlock):UAt T W' p l:=by
 rcases h with h | ⟨g,cur,rfl,r,hx⟩
 ·exact .inl h
 ·rcases Nat.eq_zero_or_pos l.length with h0 | h0
  ·exact .inl ⟨List.length_eq_zero_iff.1 h0,.inr ⟨g,rfl⟩⟩
  ·have hl:=hlt g rfl h0
   exact .inr ⟨g,cur,rfl,⟨Nat.lt_of_lt_of_le r.1 hg.size,(hg.block g r.1 fun e=>by have:=ho.lt g e.symm;omega).trans r.2⟩,hx⟩
theorem ends_first {l:List Trm} (h:0<l.length) (up:Int):(uCells (raws (ends l up)))[1]? = some (.string (S (Rat.divInt (up * sgn (trD l 0).c) 1).num)):=by
 cases l with
 | nil=>simp at h
 | cons x l=>rfl
theorem ends_apart {l:List Trm} {ph pl:Option Addr} (h:l.length=0→ph=none∧pl=none):TApart (ends l 1) (ends l (-1)) ph∧TApart (ends l (-1)) (ends l 1) pl:=by
 rcases Nat.eq_zero_or_pos l.length with h0 | h0
 ·exact ⟨.inl (h h0).1,.inl (h h0).2⟩
 ·have hne:(Value.string (S (Rat.divInt (1 * sgn (trD l 0).c) 1).num)) ≠ .string (S (Rat.divInt (-1 * sgn (trD l 0).c) 1).num):=by
   intro e
   injection e with e
   have h1:(Rat.divInt (1 * sgn (trD l 0).c) 1).num≠(Rat.divInt (-1 * sgn (trD l 0).c) 1).num:=by unfold sgn;split <;> decide +kernel
   have h2:=S_ne h1
   rw [e] at h2
   simp at h2
  exact ⟨.inr ⟨_,_,ends_first h0 1,ends_first h0 (-1),hne⟩,.inr ⟨_,_,ends_first h0 (-1),ends_first h0 1,hne.symm⟩⟩
end Go.Proofs.YtnokpldomlmamaaGreatDoor
namespace Go.Proofs.YtnokpldomlmamaaGreatDoor
open Go Go.RowKit Go.Lib Go.Shelf
/-- The special operation's step. -/
theorem quietAt_phase {P:Program} {ops:Array Oper} {Sp Sp':Nat→QSay} {tmps:Array Value} {ds:List Deferred} {w:World} (hfit:quietFit ops tmps.size=true)
  {k:Nat} {o:Oper} {listed:Array Bool} {a:Act} {W W':World} {v:Value} (ho:ops[k]? = some o) (hn:isNew o=false) (hJ:QuietAt ops Sp tmps ds w listed a W) (hA:ApartAt ops listed a W)
  (hs:Sp' k v W') (hB:Below w.heap.size w W') (hz:W.heap.size≤W'.heap.size) (hkeep:∀ i u,Sp i u W→Sp' i u W') :
  QuietAt ops Sp' tmps ds w (listed.setIfInBounds k true) (a.put o.dst v) W'∧ApartAt ops (listed.setIfInBounds k true) (a.put o.dst v) W':=by
 have other:∀ j (p:Oper) t,ops[j]? = some p→p.dst=some t→j≠k→(a.put o.dst v).eval (.tmp t)=a.eval (.tmp t):=by
  intro j p t hp ht hji
  have h2:=quietFit.own hfit hp ho ht (Ne.symm hji)
  rw [eval_tmp,eval_tmp]
  unfold Act.put
  cases hd:o.dst with
  | none=>rfl
  | some d =>
   have:d≠t:=fun e=>h2 (by rw [hd,e])
   simp only
   rw [Array.getD_eq_getD_getElem?,Array.getElem?_setIfInBounds_ne this,← Array.getD_eq_getD_getElem?]
 have new:∀ j (p:Oper),ops[j]? = some p→isNew p=true→j≠k:=fun j p hp hnp e=>by
  subst e;rw [ho] at hp;cases hp;rw [hn] at hnp;cases hnp
 refine ⟨⟨hB,?_,?_,by rw [Array.size_setIfInBounds];exact hJ.lsize,?_,?_⟩,⟨?_,?_⟩⟩
 ·rw [← hJ.defers];unfold Act.put;split <;> rfl
 ·rw [← hJ.size];unfold Act.put;split <;> simp
 ·intro j p t hp ht hj
  by_cases hji:j=k
  ·subst hji
   rw [ho] at hp;cases hp
   rw [eval_tmp]
   unfold Act.put
   rw [ht]
   simp only
   rw [Array.getD_eq_getD_getElem?,Array.getElem?_setIfInBounds_self,if_pos (by rw [hJ.size];exact quietFit.lt hfit ho ht)]
   exact hs
  ·rw [other j p t hp ht hji]
   exact hkeep _ _ (hJ.done j p t hp ht ((listed_set hj).resolve_left hji))
 ·intro t ht
  have hself:o.dst≠some t:=ht k o ho (listed_self (by rw [hJ.lsize];exact (Array.getElem?_eq_some_iff.1 ho).1))
  rw [← hJ.same t (fun j p hp hl=>ht j p hp (listed_keep hl))]
  unfold Act.put
  cases hd:o.dst with
  | none=>rfl
  | some d =>
   have:d≠t:=fun e=>hself (by rw [hd,e])
   simp only
   rw [Array.getElem?_setIfInBounds_ne this]
 ·intro j p t hp hnp ht hj
  have hji:=new j p hp hnp
  rw [other j p t hp ht hji]
  obtain ⟨b,e,hb⟩:=hA.old j p t hp hnp ht ((listed_set hj).resolve_left hji)
  exact ⟨b,e,Nat.lt_of_lt_of_le hb hz⟩
 ·intro i j p q t s hp hq hnp hnq ht hs' hne hi hj
  have hik:=new i p hp hnp
  have hjk:=new j q hq hnq
  rw [other i p t hp ht hik,other j q s hq hs' hjk]
  exact hA.apart i j p q t s hp hq hnp hnq ht hs' hne ((listed_set hi).resolve_left hik) ((listed_set hj).resolve_left hjk)
/-- Some operations' obligations: where the mask says true there is none. -/
def someItems (P:Program) (ops:Array Oper) (fl:List Oper) (items:List QItem) (tmps:Array Value) (w:World):List Bool→List Oper→List QItem→Prop
 | b :: bs,o :: l,q :: qs=>(b=false→itemOb P ops fl items tmps w o q)∧someItems P ops fl items tmps w bs l qs
 | _,[],_=>True
 | [],_ :: _,_=>False
 | _ :: _,_ :: _,[]=>False
theorem soI {P:Program} {ops:Array Oper} {fl:List Oper} {items:List QItem} {tmps:Array Value} {w:World} {bs:List Bool} {o:Oper} {l:List Oper} {q:QItem} {qs:List QItem} (h:itemOb P ops fl items tmps w o q) (h':someItems P ops fl items tmps w bs l qs):someItems P ops fl items tmps w (false :: bs) (o :: l) (q :: qs):=⟨fun _=>h,h'⟩
theorem soS {P:Program} {ops:Array Oper} {fl:List Oper} {items:List QItem} {tmps:Array Value} {w:World} {bs:List Bool} {o:Oper} {l:List Oper} {q:QItem} {qs:List QItem} (h':someItems P ops fl items tmps w bs l qs):someItems P ops fl items tmps w (true :: bs) (o :: l) (q :: qs):=⟨fun h=>(by cases h),h'⟩
theorem someItems.get {P:Program} {ops:Array Oper} {fl:List Oper} {items:List QItem} {tmps:Array Value} {w:World}:∀ (bs:List Bool) (l:List Oper) (qs:List QItem) (k:Nat),someItems P ops fl items tmps w bs l qs→(∀ i,qs[i]? = items[k+i]?)→∀ i o,l[i]? = some o→bs[i]? = some false→quietOb P ops fl (itemSp items) tmps w (k+i) o:=by
 intro bs l
 induction l generalizing bs with
 | nil=>intro qs k h hq i o ho;simp at ho
 | cons p l ih =>
  intro qs k h hq i o ho hb
  cases bs with
  | nil=>simp at hb
  | cons b bs =>
   cases qs with
   | nil=>exact h.elim
   | cons q qs =>
    cases i with
    | zero =>
     have e:itemSp items k=q.sp:=by
      have:=hq 0
      rw [Nat.add_zero] at this
      unfold itemSp;rw [← this];rfl
     have hb':b=false:=by simpa using hb
     have ho':p=o:=by simpa using ho
     subst ho'
     intro ρ W h1 h2 h3 h4 h5 h6
     rw [Nat.add_zero,e]
     exact h.1 hb' ρ W h1 h2 h3 h4 h5 h6
    | succ i =>
     have:=ih bs qs (k+1) h.2 (fun i=>by have:=hq (i+1);simpa [Nat.add_assoc,Nat.add_comm 1 i] using this) i o (by simpa using ho) (by simpa using hb)
     rwa [show k+1+i=k+(i+1) by omega] at this
def mask1 (ops:Array Oper) (n k:Nat):List Bool:=(List.range n).map fun i=>decide (i=k) || match ops[i]? with | some o=>waitsT ops ops.size o k | none=>false
def mask2 (ops:Array Oper) (n k:Nat):List Bool:=(List.range n).map fun i=>decide (i=k) || match ops[k]? with | some o=>waitsT ops ops.size o i | none=>false
/-- What is known before the special operation is enough for what is known behind it. -/
def keepItems (W W':World):List QItem→List QItem→Prop
 | q :: l,r :: m=>(∀ u,q.sp u W→r.sp u W')∧keepItems W W' l m
 | [],[]=>True
 | _,_=>False
theorem keepItems.get {W W':World}:∀ {l m:List QItem},keepItems W W' l m→∀ i u,itemSp l i u W→itemSp m i u W'
 | [],[],_,i,u,h=>by simp [itemSp]
 | q :: l,r :: m,h,0,u,hu=>h.1 u hu
 | q :: l,r :: m,h,i+1,u,hu=>keepItems.get (l:=l) (m:=m) h.2 i u hu
/-- As wp_region_late; the k-th operation is the special one: what is known before it (items0) and behind it (items). -/
theorem wp_region_phase {P:Program} {ops:Array Oper} {Q:Exit→Act→World→Prop} {id:Nat} {tmps:Array Value} {ds:List Deferred} {w:World} (n k:Nat) (C:List Nat) (items0 items:List QItem) (M1 M2:List Bool) (L:List Nat) (hm:P.follows .mixedOrders=true)
  (htail:(lateFit ops n C && quietFit ops tmps.size && decide (n≤ops.size) && decide ((ops.toList.take n).length=items.length) && (decide (items0.length=items.length) && (decide (k<n) && (!C.contains k && (match ops[k]? with | some o=>o.guard.isNone && !isNew o | none=>false)))))=true) (hC:(C.all (isVal items))=true) (hL:newDsts (ops.toList.take n)=L) (hM1:mask1 ops n k=M1) (hM2:mask2 ops n k=M2) (hmono0:itemsMono items0) (hmono:itemsMono items) (hall0:someItems P ops (ops.toList.take n) items0 tmps w M1 (ops.toList.take n) items0) (hall:someItems P ops (ops.toList.take n) items tmps w M2 (ops.toList.take n) items)
  (hk:∀ o,ops[k]? = some o→∀ (ρ:Operand→Value) (W:World),Below w.heap.size w W→(∀ v,ρ (.const v)=v)→(∀ t,foreign (ops.toList.take n) t=true→ρ (.tmp t)=tmps.getD t undef)→depsSay ops (itemSp items0) ρ W o.after.toList→∃ v W',(execOp ρ o).run P W = .ok (.value v) W'∧itemSp items k v W'∧Below w.heap.size w W'∧W.heap.size≤W'.heap.size∧keepItems W W' items0 items)
  (hdone:∀ W,Below w.heap.size w W→setItems W (fun T=>Apart L T→wpList P ops (normalQ Q) (ops.toList.drop n) ⟨T,ds⟩ W) (ops.toList.take n) items tmps):(Code.region id ops true).wp P Q ⟨tmps,ds⟩ w:=by
 simp only [Bool.and_eq_true,decide_eq_true_eq] at htail
 obtain ⟨⟨⟨⟨h1,hfit⟩,hn⟩,hlen⟩,hlen0,hkn,hkC,hko⟩:=htail
 have hkC':k ∉ C:=by simpa using hkC
 obtain ⟨ok,hok⟩:∃ o,ops[k]? = some o:=by
  cases h:ops[k]? with
  | none=>rw [h] at hko;cases hko
  | some o=>exact ⟨o,rfl⟩
 rw [hok] at hko
 simp only [Bool.and_eq_true,Bool.not_eq_true'] at hko
 obtain ⟨hkg,hknew⟩:=hko
 rw [List.all_eq_true] at hC
 have e:∀ a W,wpOps P ops (normalQ Q) (List.range' n (ops.size - n)) a W=wpList P ops (normalQ Q) (ops.toList.drop n) a W:=fun a W=>by
  have h:=wpOps_eq_wpList (P:=P) (ops:=ops) (Q:=normalQ Q) (ops.toList.drop n) n (fun j=>by rw [List.getElem?_drop];simp)
  rw [List.length_drop,Array.length_toList] at h
  rw [h]
 have hq0:∀ i (o:Oper),i<n→i≠k→ops[i]? = some o→waitsT ops ops.size o k=false→quietOb P ops (ops.toList.take n) (itemSp items0) tmps w i o:=fun i o hi hik ho hw=>by
  have:=someItems.get M1 (ops.toList.take n) items0 0 hall0 (fun i=>by simp) i o (by rw [List.getElem?_take,if_pos hi];simpa using ho) (by rw [← hM1];unfold mask1;simp [hi,ho,hik,hw])
  rwa [Nat.zero_add] at this
 have hq:∀ i (o:Oper),i<n→i≠k→ops[i]? = some o→waitsT ops ops.size ok i=false→quietOb P ops (ops.toList.take n) (itemSp items) tmps w i o:=fun i o hi hik ho hw=>by
  have:=someItems.get M2 (ops.toList.take n) items 0 hall (fun i=>by simp) i o (by rw [List.getElem?_take,if_pos hi];simpa using ho) (by rw [← hM2];unfold mask2;simp [hi,hok,hik,hw])
  rwa [Nat.zero_add] at this
 have hin:∀ (listed:Array Bool),(∀ j,n≤j→listed.getD j false=false)→∀ j (p:Oper),ops[j]? = some p→listed.getD j false=true→p ∈ ops.toList.take n:=by
  intro listed h2 j p hp hl
  have hjn:j<n:=by
   rcases Nat.lt_or_ge j n with h | h
   ·exact h
   ·rw [h2 j h] at hl;cases hl
  refine List.mem_of_getElem? (i:=j) ?_
  rw [List.getElem?_take,if_pos hjn];simpa using hp
 refine wp_region_any hm (wpAny_inv2 (J:=fun listed a W=>QuietAt ops (itemSp (if listed.getD k false=true then items else items0)) tmps ds w listed a W∧ApartAt ops listed a W∧Closed ops listed) (C:=C) hn (fun i o hi ho=>(lateFit_tail h1 hi ho).wait) (fun listed a W h=>h.1.lsize) (fun listed a W h=>h.2.2) ?_ ?_ hfit ops.size _ _ _ ⟨⟨Below.drew (Below.refl _ _),rfl,rfl,by simp,?_,fun _ _=>rfl⟩,⟨?_,?_⟩,?_⟩ (fun i _ => ?_) ?_)
 ·intro listed a W i o hJ h2 hi ho hni hdep
  by_cases hik:i=k
  ·subst hik
   have heo:=Option.some.inj (hok.symm.trans ho)
   subst heo
   have hJ1:=hJ.1
   rw [if_neg (by rw [hni];simp)] at hJ1
   obtain ⟨v,W',hr,hs,hB,hz,hkp⟩:=hk ok hok a.eval W hJ1.below (fun _=>rfl)
    (fun t ht=>by rw [eval_tmp,Array.getD_eq_getD_getElem?,Array.getD_eq_getD_getElem?,hJ1.same t (fun j p hp hl=>foreign_mem ht (hin listed h2 j p hp hl))])
    (depsSay_of _ fun e he hb p t hp ht=>hJ1.done e.on p t hp ht (hdep e (by simpa using he) hb))
   have h9:=quietAt_phase hfit hok hknew hJ1 hJ.2.1 hs hB hz hkp.get (P:=P)
   unfold wpOp
   simp only [hok]
   have hgn:ok.guard=none:=by simpa using hkg
   have hwn:Region.wanted ok (yielded ops a.tmps)=true:=by simp [Region.wanted,hgn]
   rw [if_pos hwn]
   left
   unfold Oper.wp Oper.upon
   rw [hr]
   refine ⟨?_,h9.2,closed_set hJ.2.2 hok hdep⟩
   rw [if_pos (listed_self (by rw [hJ1.lsize];exact (Array.getElem?_eq_some_iff.1 hok).1))]
   exact h9.1
  ·have hsame:(listed.setIfInBounds i true).getD k false=listed.getD k false:=by
    rw [Array.getD_eq_getD_getElem?,Array.getElem?_setIfInBounds_ne hik,← Array.getD_eq_getD_getElem?]
   rw [hsame]
   rcases hl:listed.getD k false with _ | _
   ·have hJ1:=hJ.1
    rw [hl] at hJ1
    refine wpOp_mono (fun a' W' h=>⟨h.1,h.2,closed_set hJ.2.2 ho hdep⟩) (quietAt_step2 hmono0.get hfit (hq0 i o hi hik ho ?_) (hin listed h2) ho hJ1 hJ.2.1 hni hdep)
    rcases hw:waitsT ops ops.size o k with _ | _
    ·rfl
    ·have:=waitsT_listed hJ.2.2 _ o k hdep hw
     rw [hl] at this;cases this
   ·have hJ1:=hJ.1
    rw [hl] at hJ1
    refine wpOp_mono (fun a' W' h=>⟨h.1,h.2,closed_set hJ.2.2 ho hdep⟩) (quietAt_step2 hmono.get hfit (hq i o hi hik ho ?_) (hin listed h2) ho hJ1 hJ.2.1 hni hdep)
    rcases hw:waitsT ops ops.size ok i with _ | _
    ·rfl
    ·have:=waitsT_listed hJ.2.2 _ ok i (hJ.2.2 k ok hok hl) hw
     rw [hni] at this;cases this
 ·intro fuel listed a W hJ h2 h3 hc
  have hlk:=h3 k hkn hkC'
  simp only [hlk,if_true] at hJ
  obtain ⟨T,hT,hfill,hval⟩:=exists_fill hfit (f:=fun c=>listed.getD c false) (V:=valAt items) hJ.1.size C
  refine wpAny_late hfit h1 fuel listed a W n T (Nat.le_refl _) hn hJ.1.lsize hJ.2.2 h3 h2 hJ.1.size hT (fun t ht=>(hfill t ht).symm) (fun c o t hcC ho hcn hd X => ?_) hc ?_
  ·have hLc:=lateFit_late h1 hcC ho
   have hob:=hq c o hLc.lt (fun e=>hkC' (e ▸ hcC)) ho (by
    rcases hw:waitsT ops ops.size ok c with _ | _
    ·rfl
    ·have:=waitsT_listed hJ.2.2 _ ok c (hJ.2.2 k ok hok hlk) hw
     rw [hcn] at this;cases this) a.eval W hJ.1.below (fun _=>rfl) (fun _=>rfl) (fun _=>rfl)
    (fun t ht=>by rw [eval_tmp,Array.getD_eq_getD_getElem?,Array.getD_eq_getD_getElem?,hJ.1.same t (fun j p hp hl=>foreign_mem ht (hin listed h2 j p hp hl))])
    (depsSay_of _ fun e he hb p t hp ht=>hJ.1.done e.on p t hp ht (by
     have he':e ∈ o.after:=by simpa using he
     refine h3 e.on ?_ ?_
     ·exact Nat.lt_trans (quietFit.edge hfit ho he' hb) hLc.lt
     ·intro hC'
      have:=hLc.free _ hC'
      have h9:waits o e.on=true:=Array.any_eq_true'.2 ⟨e,he',by simp [hb]⟩
      rw [h9] at this;cases this))
   rw [if_pos (by simp [Region.wanted,isSimple_guard (isPure_simple hLc.pure_)])] at hob
   cases hr:(execOp a.eval o).run P W with
   | halt x W'=>rw [hr] at hob;exact hob.elim
   | ok nx W' =>
    obtain ⟨v,rfl,hX⟩:=pure_run hLc.pure_ hr
    rw [hr] at hob
    have hv:=(isVal_sp (hC c hcC)).1 hob.1
    rw [hX X,hval c o t hcC ho hcn hd,hv]
  ·rw [e,hJ.1.defers]
   have hqd:=setItems_done (items:=items) (K:=fun T W=>Apart L T→wpList P ops (normalQ Q) (ops.toList.drop n) ⟨T,ds⟩ W) (ops.toList.take n) items 0 tmps hlen (fun i=>by simp) (hdone W hJ.1.below)
   have hsame:∀ i (o:Oper) t,i<n→ops[i]? = some o→o.dst=some t→listed.getD i false=true→T[t]? = a.tmps[t]? := fun i o t hi ho ht hl=>hfill t fun c p hcC hp hcn=>by
    have hci:c≠i:=fun e=>by subst e;rw [hl] at hcn;cases hcn
    exact quietFit.own hfit ho hp ht hci
   have h4:=quietDone_use T (ops.toList.take n) 0 tmps hqd (by rw [hT]) (fun i o t ho ht=>by
    rw [Nat.zero_add]
    rw [List.getElem?_take] at ho
    split at ho
    ·rename_i hi
     have ho':ops[i]? = some o:=by simpa using ho
     rcases hl:listed.getD i false with _ | _
     ·have hiC:i ∈ C:=by
       rcases Decidable.em (i ∈ C) with h | h
       ·exact h
       ·have:=h3 i hi h;rw [hl] at this;cases this
      exact (isVal_sp (hC i hiC)).2 (hval i o t hiC ho' hl ht)
     ·have:=hJ.1.done i o t ho' ht hl
      rw [Array.getD_eq_getD_getElem?,hsame i o t hi ho' ht hl,← Array.getD_eq_getD_getElem?]
      exact this
    ·cases ho) (fun t ht=>by
     have h5:=hJ.1.same t (fun j p hp hl=>foreign_mem ht (hin listed h2 j p hp hl))
     rw [← h5]
     refine hfill t fun c p hcC hp hcn => ?_
     have hLc:=lateFit_late h1 hcC hp
     refine foreign_mem ht (List.mem_of_getElem? (i:=c) ?_)
     rw [List.getElem?_take,if_pos hLc.lt];simpa using hp)
   refine h4 ?_
   rw [← hL]
   refine apart_of fun i j o p t s ho hp hno hnp ht hs hne => ?_
   rw [List.getElem?_take] at ho hp
   split at ho
   ·rename_i hi
    split at hp
    ·rename_i hj
     have ho':ops[i]? = some o:=by simpa using ho
     have hp':ops[j]? = some p:=by simpa using hp
     have nl:∀ c (q:Oper),ops[c]? = some q→isNew q=true→c<n→listed.getD c false=true:=fun c q hq' hnq hc'=>by
      refine h3 c hc' fun hcC => ?_
      have hLc:=(lateFit_late h1 hcC hq').pure_
      unfold isNew at hnq
      unfold isPure at hLc
      rw [Bool.and_eq_true] at hnq hLc
      have a1:=hnq.1;have a2:=hLc.1
      cases hqo:q.op <;> simp [hqo] at a1 a2
     have li:=nl i o ho' hno hi
     have lj:=nl j p hp' hnp hj
     rw [Array.getD_eq_getD_getElem?,Array.getD_eq_getD_getElem?,hsame i o t hi ho' ht li,hsame j p s hj hp' hs lj,← Array.getD_eq_getD_getElem?,← Array.getD_eq_getD_getElem?]
     exact hJ.2.1.apart i j o p t s ho' hp' hno hnp ht hs hne li lj
    ·cases hp
   ·cases ho
 ·intro i o t _ _ h
  rw [Array.getD_eq_getD_getElem?] at h
  by_cases hi:i<ops.size <;> simp [hi] at h
 ·intro i o t _ _ _ h
  rw [Array.getD_eq_getD_getElem?] at h
  by_cases hi:i<ops.size <;> simp [hi] at h
 ·intro i j o p t s _ _ _ _ _ _ _ h
  rw [Array.getD_eq_getD_getElem?] at h
  by_cases hi:i<ops.size <;> simp [hi] at h
 ·intro i o _ h
  rw [Array.getD_eq_getD_getElem?] at h
  by_cases hi:i<ops.size <;> simp [hi] at h
 ·rw [Array.getD_eq_getD_getElem?]
  by_cases hi:i<ops.size <;> simp [hi]
 ·simp
end Go.Proofs.YtnokpldomlmamaaGreatDoor
namespace Go.Proofs.YtnokpldomlmamaaGreatDoor
open Go Go.RowKit Go.Lib Go.Shelf
attribute [local go_sem] normalQ
theorem own_down {w:World} {base base':Nat} {e:TypeId} {size:Nat} {v:Value} {n:Nat} {xs:List Value} (h:w.ownsRow base e size v n xs) (hb:base'≤base):w.ownsRow base' e size v n xs :=
 ⟨h.1,h.2.imp id fun ⟨g,cap,cur,e1,e2,r⟩=>⟨g,cap,cur,e1,Nat.le_trans hb e2,r⟩⟩
def ListOwn (l:List Trm) (w:World) (e:Ending) (w':World):Prop:=∃ p c,OTT 70 w' w.heap.size p c l∧e = .returned (.slice p l.length c)∧Below w.heap.size w w'
theorem r8sourcesO (x:Nat→Int) (hx:∀ i,i<6→IsInt (x i)) (w:World):Calls Tryz.prog 33 #[.agg #[.int .i64 (x 0),.int .i64 (x 1),.int .i64 (x 2),.int .i64 (x 3),.int .i64 (x 4),.int .i64 (x 5)]] w (ListOwn (sTo x 6) w):=by
 have hB:Below w.heap.size w w:=Below.refl _ _
 unfold ListOwn
 go_enter Tryz.func33, Tryz.ntmps33
 go_wp2_with fail
 have sB:=hB.size
 refine wp_cut (fun X=>Below w.heap.size w X∧Row X w.heap.size (.cells #[.int .i64 (x 0),.int .i64 (x 1),.int .i64 (x 2),.int .i64 (x 3),.int .i64 (x 4),.int .i64 (x 5)] 53)) ⟨BW,RW8⟩ ?_
 clear hB sB
 rintro V1 ⟨hB,rx⟩
 obtain ⟨sx,cx0,cx1,cx2,cx3,cx4,cx5⟩:=RF6 rx
 clear sx cx0 cx1 cx2 cx3 cx4 cx5
 obtain ⟨xs,hxs⟩:∃ z:Array Value,z=#[.int .i64 (x 0),.int .i64 (x 1),.int .i64 (x 2),.int .i64 (x 3),.int .i64 (x 4),.int .i64 (x 5)]:=⟨_,rfl⟩
 rw [← hxs] at rx
 have HXS:=Lib.hid hxs
 clear hxs
 go_loopw [3,4] (fun v3 v4 wr=>∃ (i c:Nat) (p:Option Addr),v3 = .slice p (sTo x i).length c∧v4 = .int .i64 (i:Int)∧i≤6∧OTT 70 wr (w.heap.size+1) p c (sTo x i)∧Below w.heap.size w wr∧Row wr w.heap.size (.cells xs 53)) (fun _ v4 _=>(6 - RowKit.intOf v4).toNat)
 case atStart=>exact ⟨0,0,none,rfl,rfl,by omega,⟨rfl,.inl ⟨rfl,rfl⟩⟩,hB,rx⟩
 case round =>
  clear hB rx
  obtain ⟨i,c,p,rfl,rfl,hi6,hown,hB,rx⟩:=hrel
  rcases Nat.lt_or_ge i 6 with hlt | hge
  ·have hxi:xs[i]? = some (.int .i64 (x i)):=by rw [HXS.out];exact six_get x hlt
   have hiI:(i:Int)<6:=by omega
   have hlen:(sTo x i).length=i:=sTo_len x i
   have hl2:(sTo x i).length≤100000:=by omega
   have hsuc:=sTo_succ x i
   have MP:=fun W=>pick8 (x i) 9 (hx i hlt) (by decide) W
   have a1:=pk_nonneg (x i) (n:=9) (by decide)
   have a2:=pk_lt (x i) (n:=9) (by decide)
   generalize pk (x i) 9=k at *
   have MO:=fun W=>rqof (n:=k) (d:=8) ⟨by omega,by omega⟩ (by decide) (by decide) W
   unfold QOk Q at MO
   generalize Rat.divInt (k) 8=q at *
   have hs:((i+1:Nat):Int)=1+(i:Int):=by omega
   have HSUC:=Lib.hid hsuc
   have HLEN:=Lib.hid hlen
   clear hsuc hlen
   have Fx:∀ X,Row X w.heap.size (.cells xs 53)→(w.heap.size<X.heap.size∧X.cell? ⟨w.heap.size,i,none⟩=some (.int .i64 (x i))):=fun X h=>⟨h.1,Row.cell_at h _ hxi⟩
   obtain ⟨sx,cx0⟩:=Fx _ rx
   go_wp2_with fail
   refine (MP _).mono ?_
   rintro e W2 ⟨rfl,h1⟩
   replace hown:=OTT.later hown h1
   have stp:=St1 hB h1 rx;clear hB h1 rx sx cx0
   obtain ⟨hB,rx⟩:=stp
   obtain ⟨sx,cx0⟩:=Fx _ rx
   go_wp2_with fail
   refine (MO _).mono ?_
   rintro e W3 ⟨rfl,h1⟩
   replace hown:=OTT.later hown h1
   have stp:=St1 hB h1 rx;clear hB h1 rx sx cx0
   obtain ⟨hB,rx⟩:=stp
   obtain ⟨sx,cx0⟩:=Fx _ rx
   go_upto_region 6 with fail
   have dx_r:w.heap.size<W3.heap.size:=by omega
   have d0_r:w.heap.size≤W3.heap.size:=by have:=hB.size;omega
   have sB:=hB.size
   refine wp_cut (fun X=>Below w.heap.size w X∧Row X w.heap.size (.cells xs 53)∧Row X W3.heap.size (.cells #[.string (S q.num),.string (S (q.den:Int))] 23)∧OTT 70 X (w.heap.size+1) p c (sTo x i)) ⟨BW,RW8,RW8,OW⟩ ?_
   clear rx
   clear sx cx0
   clear hB sB hown
   rintro V4 ⟨hB,rx,rr,hown⟩
   obtain ⟨sx,cx0⟩:=Fx _ rx
   obtain ⟨sr,cr0,cr1,fr0,fr1⟩:=RFz2 rr
   go_wp2_with (at_builtin;refine wpl_append_source rfl (.tmp 19) (.tmp 24) rfl (w.heap.size+1) p c (sTo x i) ⟨i+1,q⟩ rfl (World.ownsRow.alloc hown _) _ rfl (by rw [hs];exact row_new _ _) hl2 (by simp;have:=hB.size;omega) ?_;intro p' c' W7 hown' hg';replace rx:=own_row_ne (World.ownsRow.alloc hown _) hg' (Row.alloc rx _) (by omega);replace hB:=Below.grown (hB.alloc hB.size _) hg' (by simp;have:=hB.size;omega) (fun k hk=>by have:=(World.ownsRow.lt hown k hk).1;omega);clear hg' hown)
   go_wp2
   go_roundw
   case rel=>exact ⟨i+1,c',p',by rw [HSUC.out];simp only [List.length_append,List.length_cons,List.length_nil,Nat.zero_add],by go_num,by omega,by rw [HSUC.out];exact hown',BW,rx⟩
   case measure=>simp [RowKit.intOf];omega
  ·obtain rfl:i=6:=by omega
   go_wp2
   go_ret
   exact ⟨p,c,own_down hown (Nat.le_succ _),rfl,hB⟩
end Go.Proofs.YtnokpldomlmamaaGreatDoor
namespace Go.Proofs.YtnokpldomlmamaaGreatDoor
open Go Go.RowKit Go.Lib Go.Shelf
/-- Valid says no of this raw form, wherever its terms lie. -/
def NotOk (b1 b2:ByteArray) (L:List RT) (b3 b4:ByteArray):Prop:=∀ (W:World) (p:Option Addr) (c:Nat),UAt 62 W p L→Env W→Calls Tryz.prog 34 #[.agg #[.string b1,.string b2,.slice p L.length c,.string b3,.string b4]] W (BoolOk false W)
theorem notOk_of {b1 b2 b3 b4:ByteArray} {L:List RT} {oc orr:Option Rat} {ot:Nat→Option Rat} (hc:RK b1 b2 oc) (hr:RK b3 b4 orr) (ht:∀ i,i<L.length→RK (uD L i).a (uD L i).b (ot i)) (h:vfB oc orr ot L L.length=false):NotOk b1 b2 L b3 b4:=fun W p c hp he=>by
 have:=avalid hc hr ht p c rfl W hp he
 rw [h] at this;exact this
/-- The coefficients of terms that are well written, and of one more that may not be. -/
theorem rk_terms {l:List Trm} (h:∀ p,p ∈ l→QDig 200 p.c):∀ i,i<(raws l).length→RK (uD (raws l) i).a (uD (raws l) i).b (some (trD l i).c):=fun i hi=>by
 have hi2:i<l.length:=by rw [raws_length] at hi;exact hi
 rw [raws_at hi2]
 exact RK.of (h _ (trD_mem hi2))
theorem uD_left {l m:List RT} {i:Nat} (h:i<l.length):uD (l ++ m) i=uD l i:=by
 unfold uD;rw [List.getD_eq_getElem?_getD,List.getD_eq_getElem?_getD,List.getElem?_append_left h]
theorem uD_right {l m:List RT} {i:Nat} (h:l.length≤i):uD (l ++ m) i=uD m (i - l.length):=by
 unfold uD;rw [List.getD_eq_getElem?_getD,List.getD_eq_getElem?_getD,List.getElem?_append_right h]
/-- The Rest is less than 0. -/
theorem notOk_rest {a:Frm} {q:Rat} (da:FDig 200 a) (dq:QDig 200 q) (hq:q<0):NotOk (S a.c.num) (S (a.c.den:Int)) (raws a.t) (S q.num) (S (q.den:Int)) :=
 notOk_of (RK.of da.c) (RK.of dq) (rk_terms da.t) (by
  have h9:decide (0≤q)=false:=decide_eq_false (by grind)
  simp [vfB,h9])
/-- The Center is no fraction. -/
theorem notOk_center {a:Frm} {c1 c2:ByteArray} (da:FDig 200 a) (hc:RK c1 c2 none):NotOk c1 c2 (raws a.t) (S a.r.num) (S (a.r.den:Int)) :=
 notOk_of hc (RK.of da.r) (rk_terms da.t) (by unfold vfB;simp)
/-- One more term, whose coefficient is wrong. -/
theorem notOk_wrong {a:Frm} {x:RT} {o:Option Rat} (da:FDig 200 a) (hx:RK x.a x.b o) (hw:wrongO o=true):NotOk (S a.c.num) (S (a.c.den:Int)) (raws a.t ++ [x]) (S a.r.num) (S (a.r.den:Int)):=by
 refine notOk_of (ot:=fun i=>if i<a.t.length then some (trD a.t i).c else o) (RK.of da.c) (RK.of da.r) (fun i hi => ?_) ?_
 ·rw [List.length_append,raws_length] at hi
  by_cases h:i<a.t.length
  ·rw [if_pos h,uD_left (by rw [raws_length];exact h)]
   exact rk_terms da.t i (by rw [raws_length];exact h)
  ·have e:i=a.t.length:=by simp at hi;omega
   subst e
   rw [if_neg h,uD_right (by rw [raws_length];exact Nat.le_refl _),raws_length,Nat.sub_self]
   exact hx
 ·unfold vfB
  have:∃ i,i<(raws a.t ++ [x]).length∧wrongO (if i<a.t.length then some (trD a.t i).c else o)=true:=⟨a.t.length,by rw [List.length_append,raws_length];simp,by rw [if_neg (Nat.lt_irrefl _)];exact hw⟩
  rw [decide_eq_true this];simp
/-- The sources are wrong, or the terms are too many. -/
theorem notOk_src {a:Frm} {L:List RT} {ot:Nat→Option Rat} (da:FDig 200 a) (ht:∀ i,i<L.length→RK (uD L i).a (uD L i).b (ot i)) (h:¬ SrcU L∨64<L.length):NotOk (S a.c.num) (S (a.c.den:Int)) L (S a.r.num) (S (a.r.den:Int)):=by
 refine notOk_of (RK.of da.c) (RK.of da.r) ht ?_
 unfold vfB
 rcases h with h | h
 ·rw [decide_eq_false h];simp
 ·rw [decide_eq_false (show ¬ L.length≤64 by omega)];simp
end Go.Proofs.YtnokpldomlmamaaGreatDoor
namespace Go.Proofs.YtnokpldomlmamaaGreatDoor
open Go Go.RowKit Go.Lib Go.Shelf
/-- A row of raw terms of its own. -/
abbrev OU (W:World) (n0:Nat) (p:Option Addr) (j c:Nat) (l:List RT):Prop:=W.ownsRow n0 62 3 (.slice p j c) j (uCells l)
theorem OU.later {W W':World} {n0 j c:Nat} {p:Option Addr} {l:List RT} (h:OU W n0 p j c l) (hB:Below W.heap.size W W'):OU W' n0 p j c l:=own_later h hB
theorem OU.empty {W:World} {n0 g:Nat} (h:n0≤g) (r:Row W g (.cells #[] 62)):OU W n0 (some ⟨g,0,none⟩) 0 0 []:=⟨rfl,.inr ⟨g,0,#[],rfl,h,r.2,Nat.le_refl _,by unfold maxLen;omega,rfl,rfl⟩⟩
theorem OU.nil (W:World) (n0:Nat):OU W n0 none 0 0 []:=⟨rfl,.inl ⟨rfl,rfl⟩⟩
/-- One term, or two, that a region has made. -/
theorem uat_new1 {W:World} {g:Nat} {s:Int} {a b:ByteArray} (r:Row W g (.cells #[.int .i64 s,.string a,.string b] 62)):UAt 62 W (some ⟨g,0,none⟩) [⟨s,a,b⟩] := .inr ⟨g,_,rfl,r,rfl⟩
theorem uat_new2 {W:World} {g:Nat} {s t:Int} {a b c d:ByteArray} (r:Row W g (.cells #[.int .i64 s,.string a,.string b,.int .i64 t,.string c,.string d] 62)):UAt 62 W (some ⟨g,0,none⟩) [⟨s,a,b⟩,⟨t,c,d⟩] := .inr ⟨g,_,rfl,r,rfl⟩
theorem reads_uat {T:TypeId} {w:World} {q:Option Addr} {m:List RT} (hr:UAt T w q m):Reads w w.heap.size 3 q m.length (uCells m):=by
 refine ⟨uCells_length m,fun h0 => ?_⟩
 rcases hr with ⟨he,_⟩ | ⟨g,cur,rfl,hg,hx⟩
 ·rw [he] at h0;exact absurd h0 (Nat.lt_irrefl _)
 ·refine ⟨_,rfl,hg.1,fun j u hu => ?_⟩
  have hu2:cur[j]? = some u:=by
   rw [← hx,List.getElem?_take] at hu
   split at hu
   ·rwa [Array.getElem?_toList] at hu
   ·cases hu
  have:=Row.cell_lit' hg j hu2
  rcases Nat.eq_zero_or_pos j with rfl | hj
  ·simpa [Addr.add] using this
  ·simpa [Addr.add,Nat.ne_of_gt hj] using this
/-- The builtin append of raw terms. -/
theorem wpl_append_raw {ops:Array Oper} {rest:List Oper} {o:Oper} {a:Act} {Q:Exit→Act→World→Prop} {w:World} (hgd:o.guard=none) (s x:Operand)
  (ho:o.op = .call { callee := .builtin .append,args:=#[s,x],argTypes:=#[56, 56] }) (n0:Nat) (p:Option Addr) (j c:Nat) (l:List RT) (hs:a.eval s = .slice p j c) (hown:OU w n0 p j c l)
  (q:Option Addr) (k d:Nat) (m:List RT) (hx:a.eval x = .slice q k d) (hk:m.length=k) (hr:UAt 62 w q m) (t:Nat) (ht:j+k=t) (hl:j≤100000) (hm:k≤100000) (hbase:n0≤w.heap.size)
  (h:∀ p' c' w',OU w' n0 p' t c' (l ++ m)→w.grownBy w' (Value.slice p j c).ownBlock→wpList Tryz.prog ops Q rest (a.put o.dst (.slice p' t c')) w'):wpList Tryz.prog ops Q (o :: rest) a w:=by
 obtain ⟨i0,hi,hz0,hz1,hz2⟩:=info_parts termInfo
 subst hk ht
 refine wpList_append_reads _ hgd s x 56 ho n0 62 i0 (.agg #[.int .i64 0,.string ⟨#[]⟩,.string ⟨#[]⟩]) 3 40 Tryz.underlying56 hi hz0 hz1 hz2 rfl (by decide) (.slice p j c) j (uCells l) hs hown w.heap.size q m.length d
  (uCells m) hx (reads_uat hr) (uCells_one _) (by unfold maxLen;omega) (by omega) hbase ?_
 intro v' w' hown' hg
 obtain ⟨p',c',rfl⟩:=own_slice hown'
 rw [← uCells_app] at hown'
 exact h p' c' w' hown' hg
/-- The builtin append of one source, as a run. -/
theorem source_append_run {o:Oper} (s x:Operand) (ho:o.op = .call { callee := .builtin .append,args:=#[s,x],argTypes:=#[71, 71] }) (ρ:Operand→Value) (w:World) (n0:Nat) (p:Option Addr) (j c:Nat) (l:List RT) (hs:ρ s = .slice p j c) (hown:w.ownsRow n0 70 3 (.slice p j c) j (uCells l))
  (g:Nat) (i:Int) (a b:ByteArray) (hx:ρ x = .slice (some ⟨g,0,none⟩) 1 1) (hr:Row w g (.cells #[.int .i64 i,.string a,.string b] 70)) (hl:j≤100000) (hbase:n0≤w.heap.size) :
  ∃ v w',(execOp ρ o).run Tryz.prog w = .ok (.value v) w'∧(∃ p' c',v = .slice p' (j+1) c'∧w'.ownsRow n0 70 3 (.slice p' (j+1) c') (j+1) (uCells (l ++ [⟨i,a,b⟩])))∧w.grownBy w' (Value.slice p j c).ownBlock:=by
 obtain ⟨i0,hi,hz0,hz1,hz2⟩:=info_parts sourceInfo
 have hu:UAt 70 w (some ⟨g,0,none⟩) [⟨i,a,b⟩] := .inr ⟨g,_,rfl,hr,rfl⟩
 obtain ⟨v',w',hrun,h2,h3⟩:=run_append_reads (P:=Tryz.prog) w n0 71 o.type 70 i0 (.agg #[.int .i64 0,.string ⟨#[]⟩,.string ⟨#[]⟩]) 3 40 Tryz.underlying71 hi hz0 hz1 hz2 rfl (by decide) (.slice p j c) j (uCells l) hown w.heap.size (some ⟨g,0,none⟩) 1 1
  (uCells [⟨i,a,b⟩]) (reads_uat hu) (uCells_one _) (by unfold maxLen;omega) (by omega) hbase
 obtain ⟨p',c',rfl⟩:=own_slice h2
 rw [← uCells_app] at h2
 refine ⟨_,w',?_,⟨p',c',rfl,h2⟩,h3⟩
 unfold execOp
 simp only [ho,resolve,invoke,builtin,Sem.run_bind,Sem.run_pure,Result.andThen_ok,List.map_toArray,List.map_cons,List.map_nil,hs,hx,hrun]
theorem own_row_type {n₀ n b:Nat} {v:Value} {xs:List Value} {T T':TypeId} {k:Nat} {vs:Array Value} {A B:World} (h:A.ownsRow n₀ T k v n xs) (hg:A.grownBy B v.ownBlock) (r:Row A b (.cells vs T')) (hne:T'≠T):Row B b (.cells vs T'):=by
 refine ⟨Nat.lt_of_lt_of_le r.1 hg.size,(hg.block b r.1 fun e => ?_).trans r.2⟩
 rcases h.2 with ⟨rfl,_⟩ | ⟨g,cap,cur,rfl,_,h1,_⟩
 ·cases e
 ·have e2:b=g:=by simpa [Value.ownBlock] using e
  subst e2
  have h3:=r.2
  rw [h1] at h3
  injection h3 with h3
  injection h3 with _ h4
  exact hne h4.symm
/-- A row of sources of its own; sources. -/
def SayOwnS (n0 j:Nat) (l:List RT):QSay:=fun v W=>∃ p c,v = .slice p j c∧W.ownsRow n0 70 3 (.slice p j c) j (uCells l)
theorem SayOwnS.mono (n0 j:Nat) (l:List RT):qMono (SayOwnS n0 j l):=fun v W W' ⟨p,c,e,h⟩ hB=>⟨p,c,e,own_later h hB⟩
theorem say_mono (b:Prop):qMono (fun _ _=>b):=fun _ _ _ h _=>h
/-- A raw form of m terms of which Valid says no. -/
def NotOkL (b1 b2:ByteArray) (L:List RT) (m:Nat) (b3 b4:ByteArray):Prop:=L.length=m∧NotOk b1 b2 L b3 b4
theorem NotOkL.valid {b1 b2:ByteArray} {L:List RT} {m:Nat} {b3 b4:ByteArray} (h:NotOkL b1 b2 L m b3 b4) (W:World) (p:Option Addr) (c:Nat) (hu:UAt 62 W p L) (he:Env W):Calls Tryz.prog 34 #[.agg #[.string b1,.string b2,.slice p m c,.string b3,.string b4]] W (BoolOk false W):=by
 obtain ⟨rfl,h⟩:=h
 exact h W p c hu he
end Go.Proofs.YtnokpldomlmamaaGreatDoor
