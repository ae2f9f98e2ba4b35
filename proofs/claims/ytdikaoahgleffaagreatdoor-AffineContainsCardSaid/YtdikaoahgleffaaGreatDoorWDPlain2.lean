/-
 What the eight operations of the laws' calls hand back, as a relation; that results narrow with their operands, their digits, and the bounds that Rounds' differences need. Plain: no program in sight. Affine, plain: forms, their terms, combinations, radius, values, covariance. No program in sight. Drift, plain: histories, what is known at a time, contradictions. No program in sight. Drift, plain: what the laws say of what is known. No program in sight.
-/
import Derived.Test.YtdikaoahgleffaaGreatDoorWQPlain6
namespace Go.Proofs.YtdikaoahgleffaaGreatDoor
open Go Go.Lib
def OpRes (k:Nat) (a b:Iv) (T:Int) (o:Option Iv):Prop :=
 match k with
 | 0=>o=some (addI a b)
 | 1=>o=some (subI a b)
 | 2=>o=some (mulI a b)
 | 3=>(b.Free∧o=some (divI a b))∨(¬ b.Free∧o=none)
 | 4=>o=some (hullI a b)
 | 5=>((meetI a b).Ok∧o=some (meetI a b))∨(¬ (meetI a b).Ok∧o=none)
 | 6=>(0≤a.lo∧∃ s,SqrtI a T s∧o=some s)∨(a.lo<0∧o=none)
 | _=>o=some (roundI a T)
theorem OpRes.ok {k:Nat} {a b s:Iv} {T:Int} (hT:0<T) (ha:a.Ok) (hb:b.Ok) (h:OpRes k a b T (some s)):s.Ok:=by
 unfold OpRes at h;split at h
 ·cases h;exact addI_ok ha hb
 ·cases h;exact subI_ok ha hb
 ·cases h;exact mulI_ok ha hb
 ·rcases h with ⟨h0,h⟩ | ⟨_,h⟩
  ·cases h;exact divI_ok h0 ha hb
  ·cases h
 ·cases h;exact hullI_ok ha
 ·rcases h with ⟨h0,h⟩ | ⟨_,h⟩
  ·cases h;exact h0
  ·cases h
 ·rcases h with ⟨_,t,ht,h⟩ | ⟨_,h⟩
  ·cases h;exact SqrtI.ok hT ha ht
  ·cases h
 ·cases h
  have h1:=sub_roundI (a:=a) hT;have h2:a.lo≤a.hi:=ha;exact Rat.le_trans (Rat.le_trans h1.1 h2) h1.2
theorem OpRes.sub {k:Nat} {a b c d t:Iv} {T:Int} {o:Option Iv} (hT:0<T) (ha:a.Ok) (hb:b.Ok) (h1:a.Sub c) (h2:b.Sub d)
  (h:OpRes k a b T o) (h':OpRes k c d T (some t)):(∃ s,o=some s∧s.Sub t)∨(k=5∧o=none):=by
 unfold OpRes at h h';split at h <;> simp only at h'
 ·cases h';exact .inl ⟨_,h,addI_sub h1 h2⟩
 ·cases h';exact .inl ⟨_,h,subI_sub h1 h2⟩
 ·cases h';exact .inl ⟨_,h,mulI_sub ha hb h1 h2⟩
 ·rcases h' with ⟨h0,h'⟩ | ⟨_,h'⟩
  ·cases h'
   rcases h with ⟨_,h⟩ | ⟨hn,_⟩
   ·exact .inl ⟨_,h,divI_sub h0 ha hb h1 h2⟩
   ·exact absurd (h0.sub h2) hn
  ·cases h'
 ·cases h';exact .inl ⟨_,h,hullI_sub ha hb h1 h2⟩
 ·rcases h' with ⟨h0,h'⟩ | ⟨_,h'⟩
  ·cases h'
   rcases h with ⟨hm,h⟩ | ⟨_,h⟩
   ·exact .inl ⟨_,h,meetI_sub hm h1 h2⟩
   ·exact .inr ⟨rfl,h⟩
  ·cases h'
 ·rcases h' with ⟨h0,u,hu,h'⟩ | ⟨_,h'⟩
  ·cases h'
   rcases h with ⟨_,s,hs,h⟩ | ⟨hn,_⟩
   ·exact .inl ⟨_,h,SqrtI.sub hT h1 hs hu⟩
   ·exact absurd (Rat.le_trans h0 h1.1) (Rat.not_le.2 hn)
  ·cases h'
 ·cases h';exact .inl ⟨_,h,roundI_sub hT h1⟩
theorem OpRes.dig {k j p:Nat} {a b s:Iv} (hj:0<j) (hb:b.Ok) (da:IDig j a) (db:IDig j b) (h:OpRes k a b (TT p) (some s)):IDig (j+j+p+p+1) s:=by
 unfold OpRes at h;split at h
 ·cases h;exact (addI_dig da db).mono (by omega)
 ·cases h;exact (subI_dig da db).mono (by omega)
 ·cases h;exact (mulI_dig da db).mono (by omega)
 ·rcases h with ⟨h0,h⟩ | ⟨_,h⟩
  ·cases h;exact (divI_dig da db h0 hb).mono (by omega)
  ·cases h
 ·cases h;exact (hullI_dig da db).mono (by omega)
 ·rcases h with ⟨h0,h⟩ | ⟨_,h⟩
  ·cases h;exact (meetI_dig da db).mono (by omega)
  ·cases h
 ·rcases h with ⟨_,t,ht,h⟩ | ⟨_,h⟩
  ·cases h;exact (SqrtI.dig da hj ht).mono (by omega)
  ·cases h
 ·cases h;exact (roundI_dig da).mono (by omega)
def pk (c n:Int):Int:=if c<0 then (-(c+1)) % n else c % n
theorem pk_nonneg (c:Int) {n:Int} (h:0<n):0≤pk c n:=by unfold pk;split <;> exact Int.emod_nonneg _ (by omega)
theorem pk_lt (c:Int) {n:Int} (h:0<n):pk c n<n:=by unfold pk;split <;> exact Int.emod_lt_of_pos _ h
end Go.Proofs.YtdikaoahgleffaaGreatDoor
namespace Go.Proofs.YtdikaoahgleffaaGreatDoor
open Go Go.Lib
structure Trm where
 s:Nat
 c:Rat
structure Frm where
 c:Rat
 t:List Trm
 r:Rat
def trD (l:List Trm) (i:Nat):Trm:=l.getD i ⟨0,0⟩
theorem trD_mem {l:List Trm} {i:Nat} (h:i<l.length):trD l i ∈ l:=by
 unfold trD;rw [List.getD_eq_getElem?_getD,List.getElem?_eq_getElem h];exact List.getElem_mem h
theorem trD_get {l:List Trm} {i:Nat} (h:i<l.length):trD l i=l[i]:=by unfold trD;rw [List.getD_eq_getElem?_getD,List.getElem?_eq_getElem h];rfl
theorem take_trD {l:List Trm} {i:Nat} (h:i<l.length):l.take (i+1)=l.take i ++ [trD l i]:=by
 rw [List.take_add_one,List.getElem?_eq_getElem h,trD_get h];rfl
theorem drop_trD {l:List Trm} {i:Nat} (h:i<l.length):l.drop i=trD l i :: l.drop (i+1):=by
 rw [trD_get h];exact List.drop_eq_getElem_cons h
structure SrcOk (l:List Trm):Prop where
 src:∀ p,p ∈ l→1≤p.s∧p.s≤1000000
 asc:l.Pairwise fun a b=>a.s<b.s
theorem SrcOk.nil:SrcOk []:=⟨fun _ h=>absurd h (by simp),List.Pairwise.nil⟩
theorem SrcOk.tail {x:Trm} {l:List Trm} (h:SrcOk (x :: l)):SrcOk l:=⟨fun p hp=>h.src p (List.mem_cons_of_mem _ hp),(List.pairwise_cons.1 h.asc).2⟩
theorem SrcOk.lt {l:List Trm} (h:SrcOk l) {i k:Nat} (hik:i<k) (hk:k<l.length):(trD l i).s<(trD l k).s:=by
 rw [trD_get (show i<l.length by omega),trD_get hk];exact List.pairwise_iff_getElem.1 h.asc i k (by omega) hk hik
structure Frm.Ok (f:Frm):Prop where
 few:f.t.length≤64
 src:SrcOk f.t
 nz:∀ p,p ∈ f.t→p.c≠0
 rest:0≤f.r
structure FDig (k:Nat) (f:Frm):Prop where
 c:QDig k f.c
 t:∀ p,p ∈ f.t→QDig k p.c
 r:QDig k f.r
theorem FDig.mono {j k:Nat} {f:Frm} (h:FDig j f) (hjk:j≤k):FDig k f:=⟨h.c.mono hjk,fun p hp=>(h.t p hp).mono hjk,h.r.mono hjk⟩
def absQ (x:Rat):Rat:=if x<0 then 0 - x else x
theorem absQ_neg {x:Rat} (h:x<0):absQ x=0 - x:=by unfold absQ;rw [if_pos h]
theorem absQ_pos {x:Rat} (h:0≤x):absQ x=x:=by unfold absQ;rw [if_neg (by grind)]
theorem absQ_nonneg (x:Rat):0≤absQ x:=by unfold absQ;split <;> grind
theorem absQ_dig {k:Nat} {x:Rat} (h:QDig k x):QDig k (absQ x):=by
 unfold absQ;split
 ·have:(0:Rat) - x = -x:=by grind
  rw [this];exact ⟨by show Dig k (-x).num;rw [Rat.neg_num];unfold Dig;rw [Int.natAbs_neg];exact h.1,by show Dig k (((-x).den:Nat):Int);rw [Rat.neg_den];exact h.2⟩
 ·exact h
def radTo (l:List Trm):Nat→Rat
 | 0=>0
 | k+1=>radTo l k+absQ (trD l k).c
def rad (f:Frm):Rat:=radTo f.t f.t.length+f.r
theorem radTo_nonneg (l:List Trm):∀ k,0≤radTo l k
 | 0=>Rat.le_refl
 | k+1=>by have h1:=radTo_nonneg l k;have h2:=absQ_nonneg (trD l k).c;show 0≤radTo l k+absQ (trD l k).c;grind
theorem rad_nonneg {f:Frm} (h:0≤f.r):0≤rad f:=by have:=radTo_nonneg f.t f.t.length;unfold rad;grind
def look (l:List Trm) (id:Nat):Option Rat:=(l.find? fun t=>t.s == id).map (·.c)
def cf (l:List Trm) (id:Nat):Rat:=(look l id).getD 0
theorem look_cons (x:Trm) (l:List Trm) (id:Nat):look (x :: l) id=if x.s=id then some x.c else look l id:=by
 unfold look;rw [List.find?_cons];by_cases h:x.s=id
 ·simp [h]
 ·have:(x.s == id)=false:=by simpa using h
  rw [this,if_neg h]
theorem look_none {l:List Trm} {id:Nat}:look l id=none ↔ ∀ p,p ∈ l→p.s≠id:=by
 unfold look;simp
theorem cf_nil (id:Nat):cf [] id=0:=rfl
theorem cf_cons (x:Trm) (l:List Trm) (id:Nat):cf (x :: l) id=if x.s=id then x.c else cf l id:=by
 unfold cf;rw [look_cons];split <;> rfl
theorem cf_none {l:List Trm} {id:Nat} (h:∀ p,p ∈ l→p.s≠id):cf l id=0:=by unfold cf;rw [look_none.2 h];rfl
theorem look_at {l:List Trm} (h:SrcOk l) {i:Nat} (hi:i<l.length):look l (trD l i).s=some (trD l i).c:=by
 induction l generalizing i with
 | nil=>simp at hi
 | cons x l ih =>
  rw [look_cons]
  cases i with
  | zero =>
   rw [if_pos]
   ·rfl
   ·rfl
  | succ i =>
   have hx:x.s<(trD (x :: l) (i+1)).s:=h.lt (i:=0) (k:=i+1) (by omega) hi;rw [if_neg (by omega)];exact ih h.tail (by simpa using hi)
theorem cf_at {l:List Trm} (h:SrcOk l) {i:Nat} (hi:i<l.length):cf l (trD l i).s=(trD l i).c:=by unfold cf;rw [look_at h hi];rfl
theorem cf_mem {l:List Trm} (h:SrcOk l) {p:Trm} (hp:p ∈ l):cf l p.s=p.c:=by
 obtain ⟨i,hi,rfl⟩:=List.getElem_of_mem hp;have:=cf_at h hi
 rwa [trD_get hi] at this
theorem terms_ext:∀ {a b:List Trm},SrcOk a→SrcOk b→(∀ p,p ∈ a→p.c≠0)→(∀ p,p ∈ b→p.c≠0)→(∀ id,cf a id=cf b id)→a=b
 | [],[],_,_,_,_,_=>rfl
 | [],y :: b,_,_,_,hb0,h=>by
  have:=h y.s;rw [cf_nil,cf_cons,if_pos rfl] at this;exact absurd this.symm (hb0 y (by simp))
 | x :: a,[],_,_,ha0,_,h=>by
  have:=h x.s;rw [cf_nil,cf_cons,if_pos rfl] at this;exact absurd this (ha0 x (by simp))
 | x :: a,y :: b,ha,hb,ha0,hb0,h=>by
  have hx:∀ p,p ∈ a→x.s<p.s:=(List.pairwise_cons.1 ha.asc).1;have hy:∀ p,p ∈ b→y.s<p.s:=(List.pairwise_cons.1 hb.asc).1;have e1:=h x.s;have e2:=h y.s;rw [cf_cons,if_pos rfl,cf_cons] at e1;rw [cf_cons,cf_cons,if_pos rfl] at e2;have hs:x.s=y.s:=by
   rcases Nat.lt_trichotomy x.s y.s with hl | he | hg
   ·rw [if_neg (by omega),cf_none (fun p hp=>by have:=hy p hp;omega)] at e1;exact absurd e1 (ha0 x (by simp))
   ·exact he
   ·rw [if_neg (by omega),cf_none (fun p hp=>by have:=hx p hp;omega)] at e2;exact absurd e2.symm (hb0 y (by simp))
  rw [if_pos hs.symm] at e1;have hxy:x=y:=by cases x;cases y;simp only at hs e1;rw [hs,e1]
  subst hxy;rw [terms_ext ha.tail hb.tail (fun p hp=>ha0 p (List.mem_cons_of_mem _ hp)) (fun p hp=>hb0 p (List.mem_cons_of_mem _ hp)) fun id=>by
   have:=h id;rw [cf_cons,cf_cons] at this;by_cases hid:x.s=id
   ·rw [cf_none (fun p hp=>by have:=hx p hp;omega),cf_none (fun p hp=>by have:=hy p hp;omega)]
   ·rwa [if_neg hid,if_neg hid] at this]
def ahead (s:Nat) (c:Rat) (l:List Trm):List Trm:=if c=0 then l else ⟨s,c⟩ :: l
def lin (p q:Rat):List Trm→List Trm→List Trm
 | [],[]=>[]
 | x :: a,[]=>ahead x.s (p * x.c) (lin p q a [])
 | [],y :: b=>ahead y.s (q * y.c) (lin p q [] b)
 | x :: a,y :: b =>
  if x.s<y.s then ahead x.s (p * x.c) (lin p q a (y :: b))
  else if y.s<x.s then ahead y.s (q * y.c) (lin p q (x :: a) b)
  else ahead x.s (p * x.c+q * y.c) (lin p q a b)
 termination_by a b=>a.length+b.length
theorem ahead_mem {s:Nat} {c:Rat} {l:List Trm} {t:Trm} (h:t ∈ ahead s c l):t=⟨s,c⟩∧c≠0∨t ∈ l:=by
 unfold ahead at h;split at h
 ·exact .inr h
 ·rcases List.mem_cons.1 h with h | h
  ·exact .inl ⟨h,by assumption⟩
  ·exact .inr h
theorem cf_ahead {s:Nat} {c:Rat} {l:List Trm} (hl:∀ t,t ∈ l→t.s≠s) (id:Nat):cf (ahead s c l) id=if s=id then c else cf l id:=by
 unfold ahead;split
 ·rename_i h;split
  ·rename_i e;subst e;rw [cf_none hl,h]
  ·rfl
 ·rw [cf_cons]
structure LinOk (lo:Nat) (l:List Trm):Prop where
 src:∀ t,t ∈ l→lo≤t.s∧t.s≤1000000
 asc:l.Pairwise fun a b=>a.s<b.s
 nz:∀ t,t ∈ l→t.c≠0
theorem LinOk.ahead {s lo:Nat} {c:Rat} {l:List Trm} (h:LinOk (s+1) l) (hs:lo≤s) (hs2:s≤1000000):LinOk lo (ahead s c l):=by
 refine ⟨fun t ht => ?_,?_,fun t ht => ?_⟩
 ·rcases ahead_mem ht with ⟨rfl,_⟩ | ht
  ·exact ⟨hs,hs2⟩
  ·have:=h.src t ht;exact ⟨by omega,this.2⟩
 ·unfold Proofs.YtdikaoahgleffaaGreatDoor.ahead;split
  ·exact h.asc
  ·exact List.pairwise_cons.2 ⟨fun t ht=>by have:=h.src t ht;show s<t.s;omega,h.asc⟩
 ·rcases ahead_mem ht with ⟨rfl,hc⟩ | ht
  ·exact hc
  ·exact h.nz t ht
theorem ahead_len (s:Nat) (c:Rat) (l:List Trm):(ahead s c l).length≤l.length+1:=by unfold ahead;split <;> simp
theorem lin_nil (p q:Rat):lin p q [] []=[]:=by unfold lin;rfl
theorem lin_left (p q:Rat) (x:Trm) (a:List Trm):lin p q (x :: a) []=ahead x.s (p * x.c) (lin p q a []):=by rw [lin]
theorem lin_right (p q:Rat) (y:Trm) (b:List Trm):lin p q [] (y :: b)=ahead y.s (q * y.c) (lin p q [] b):=by rw [lin]
theorem lin_both (p q:Rat) (x y:Trm) (a b:List Trm):lin p q (x :: a) (y :: b) =
  if x.s<y.s then ahead x.s (p * x.c) (lin p q a (y :: b))
  else if y.s<x.s then ahead y.s (q * y.c) (lin p q (x :: a) b)
  else ahead x.s (p * x.c+q * y.c) (lin p q a b):=by rw [lin]
structure LinSpec (p q:Rat) (a b:List Trm) (lo:Nat):Prop where
 ok:LinOk lo (lin p q a b)
 cf:∀ id,cf (lin p q a b) id=p * Proofs.YtdikaoahgleffaaGreatDoor.cf a id+q * Proofs.YtdikaoahgleffaaGreatDoor.cf b id
 len:(lin p q a b).length≤a.length+b.length
theorem src_head {x:Trm} {a:List Trm} (h:SrcOk (x :: a)):∀ t,t ∈ a→x.s+1≤t.s:=fun t ht=>(List.pairwise_cons.1 h.asc).1 t ht
theorem src_all {x:Trm} {a:List Trm} (h:SrcOk (x :: a)):∀ t,t ∈ x :: a→x.s≤t.s:=fun t ht=>by
 rcases List.mem_cons.1 ht with rfl | ht
 ·exact Nat.le_refl _
 ·have:=src_head h t ht;omega
theorem lin_spec (p q:Rat):∀ (n:Nat) (a b:List Trm),a.length+b.length≤n→SrcOk a→SrcOk b→∀ lo,(∀ t,t ∈ a→lo≤t.s)→(∀ t,t ∈ b→lo≤t.s)→LinSpec p q a b lo:=by
 intro n
 induction n with
 | zero =>
  intro a b hn ha hb lo la lb;have e1:a=[]:=List.length_eq_zero_iff.1 (by omega);have e2:b=[]:=List.length_eq_zero_iff.1 (by omega);subst e1 e2;exact ⟨by rw [lin_nil];exact ⟨fun _ h=>absurd h (by simp),List.Pairwise.nil,fun _ h=>absurd h (by simp)⟩,fun id=>by rw [lin_nil,cf_nil];grind,by rw [lin_nil];simp⟩
 | succ n ih =>
  intro a b hn ha hb lo la lb
  match a,b with
  | [],[]=>exact ⟨by rw [lin_nil];exact ⟨fun _ h=>absurd h (by simp),List.Pairwise.nil,fun _ h=>absurd h (by simp)⟩,fun id=>by rw [lin_nil,cf_nil];grind,by rw [lin_nil];simp⟩
  | x :: a,[] =>
   have k:=ih a [] (by simp at hn ⊢;omega) ha.tail SrcOk.nil (x.s+1) (src_head ha) (fun _ h=>absurd h (by simp));refine ⟨by rw [lin_left];exact k.ok.ahead (la x (by simp)) (ha.src x (by simp)).2,fun id => ?_,?_⟩
   ·rw [lin_left,cf_ahead (fun t ht=>by have:=(k.ok.src t ht).1;omega),k.cf,cf_cons,cf_nil];split
    ·grind
    ·rfl
   ·rw [lin_left];have:=ahead_len x.s (p * x.c) (lin p q a []);have:=k.len;simp at this ⊢;omega
  | [],y :: b =>
   have k:=ih [] b (by simp at hn ⊢;omega) SrcOk.nil hb.tail (y.s+1) (fun _ h=>absurd h (by simp)) (src_head hb);refine ⟨by rw [lin_right];exact k.ok.ahead (lb y (by simp)) (hb.src y (by simp)).2,fun id => ?_,?_⟩
   ·rw [lin_right,cf_ahead (fun t ht=>by have:=(k.ok.src t ht).1;omega),k.cf,cf_cons,cf_nil];split
    ·grind
    ·rfl
   ·rw [lin_right];have:=ahead_len y.s (q * y.c) (lin p q [] b);have:=k.len;simp at this ⊢;omega
  | x :: a,y :: b =>
   rw [List.length_cons,List.length_cons] at hn;rcases Nat.lt_trichotomy x.s y.s with h | h | h
   ·have k:=ih a (y :: b) (by simp;omega) ha.tail hb (x.s+1) (src_head ha) (fun t ht=>by have:=src_all hb t ht;omega);have e:=lin_both p q x y a b;rw [if_pos h] at e;refine ⟨by rw [e];exact k.ok.ahead (la x (by simp)) (ha.src x (by simp)).2,fun id => ?_,?_⟩
    ·rw [e,cf_ahead (fun t ht=>by have:=(k.ok.src t ht).1;omega),k.cf,cf_cons x a];split
     ·rename_i e2;rw [cf_none (l:=y :: b) (fun t ht=>by have:=src_all hb t ht;omega)];grind
     ·rfl
    ·rw [e];have h1:=ahead_len x.s (p * x.c) (lin p q a (y :: b));have h2:=k.len;simp at h2 ⊢;omega
   ·have k:=ih a b (by omega) ha.tail hb.tail (x.s+1) (src_head ha) (fun t ht=>by have:=src_head hb t ht;omega);have e:=lin_both p q x y a b;rw [if_neg (by omega),if_neg (by omega)] at e;refine ⟨by rw [e];exact k.ok.ahead (la x (by simp)) (ha.src x (by simp)).2,fun id => ?_,?_⟩
    ·rw [e,cf_ahead (fun t ht=>by have:=(k.ok.src t ht).1;omega),k.cf,cf_cons x a,cf_cons y b,← h];split <;> rfl
    ·rw [e];have h1:=ahead_len x.s (p * x.c+q * y.c) (lin p q a b);have h2:=k.len;simp;omega
   ·have k:=ih (x :: a) b (by simp;omega) ha hb.tail (y.s+1) (fun t ht=>by have:=src_all ha t ht;omega) (src_head hb);have e:=lin_both p q x y a b;rw [if_neg (by omega),if_pos h] at e;refine ⟨by rw [e];exact k.ok.ahead (lb y (by simp)) (hb.src y (by simp)).2,fun id => ?_,?_⟩
    ·rw [e,cf_ahead (fun t ht=>by have:=(k.ok.src t ht).1;omega),k.cf,cf_cons y b];split
     ·rename_i e2;rw [cf_none (l:=x :: a) (fun t ht=>by have:=src_all ha t ht;omega)];grind
     ·rfl
    ·rw [e];have h1:=ahead_len y.s (q * y.c) (lin p q (x :: a) b);have h2:=k.len;simp at h2 ⊢;omega
theorem LinOk.srcOk {lo:Nat} {l:List Trm} (h:LinOk lo l) (h1:1≤lo):SrcOk l:=⟨fun t ht=>by have:=h.src t ht;exact ⟨by omega,this.2⟩,h.asc⟩
theorem lin_ok {p q:Rat} {a b:List Trm} (ha:SrcOk a) (hb:SrcOk b):LinSpec p q a b 1:=lin_spec p q _ a b (Nat.le_refl _) ha hb 1 (fun t ht=>(ha.src t ht).1) (fun t ht=>(hb.src t ht).1)
def combF (p q:Rat) (a b:Frm):Frm:=⟨p * a.c+q * b.c,lin p q a.t b.t,absQ p * a.r+absQ q * b.r⟩
def midTo (vs:List Trm) (c:Rat) (l:List Trm):Nat→Rat
 | 0=>c
 | k+1=>match look vs (trD l k).s with
  | some v=>midTo vs c l k+(trD l k).c * v
  | none=>midTo vs c l k
def others (vs l:List Trm):List Trm:=l.filter fun t=>(look vs t.s).isNone
theorem others_take {vs l:List Trm} {k:Nat} (hk:k<l.length):others vs (l.take (k+1))=if look vs (trD l k).s=none then others vs (l.take k) ++ [trD l k] else others vs (l.take k):=by
 unfold others;rw [take_trD hk,List.filter_append];by_cases h:look vs (trD l k).s=none
 ·rw [if_pos h];simp [h]
 ·rw [if_neg h];have:(look vs (trD l k).s).isNone=false:=by cases e:look vs (trD l k).s with
   | none=>exact absurd e h
   | some v=>rfl
  simp [this]
def atI (f:Frm) (vs:List Trm):Iv:=⟨midTo vs f.c f.t f.t.length - rad ⟨0,others vs f.t,f.r⟩,midTo vs f.c f.t f.t.length+rad ⟨0,others vs f.t,f.r⟩⟩
def rangeI (f:Frm):Iv:=⟨f.c - rad f,f.c+rad f⟩
end Go.Proofs.YtdikaoahgleffaaGreatDoor
namespace Go.Proofs.YtdikaoahgleffaaGreatDoor
open Go Go.Lib
structure Pt where
 t:Nat
 iv:Iv
structure Hist where
 rate:Rat
 pts:List Pt
def dist (a b:Nat):Nat:=(a - b)+(b - a)
theorem dist_comm (a b:Nat):dist a b=dist b a:=by unfold dist;omega
theorem dist_self (a:Nat):dist a a=0:=by unfold dist;omega
theorem dist_tri (a b c:Nat):dist a c≤dist a b+dist b c:=by unfold dist;omega
theorem dist_shift (a b k:Nat):dist (a+k) (b+k)=dist a b:=by unfold dist;omega
theorem dist_bound {a b n:Nat} (ha:a≤n) (hb:b≤n):dist a b≤n:=by unfold dist;omega
def far (r:Rat) (d:Nat):Rat:=r * (d:Rat)
theorem far_zero (r:Rat):far r 0=0:=by unfold far;grind
theorem far_nonneg {r:Rat} (h:0≤r) (d:Nat):0≤far r d:=Rat.mul_nonneg h (by exact_mod_cast Nat.zero_le d)
theorem far_add (r:Rat) (d e:Nat):far r (d+e)=far r d+far r e:=by unfold far;push_cast;grind
theorem far_mono {r:Rat} (h:0≤r) {d e:Nat} (hd:d≤e):far r d≤far r e:=by
 obtain ⟨k,rfl⟩:∃ k,e=d+k:=⟨e - d,by omega⟩
 rw [far_add];have:=far_nonneg h k;grind
theorem far_rate {r s:Rat} (h:r≤s) (d:Nat):far r d≤far s d:=by
 unfold far;have h1:0≤s - r:=by grind
 have h2:0≤(s - r) * (d:Rat):=Rat.mul_nonneg h1 (by exact_mod_cast Nat.zero_le d);grind
theorem far_tri {r:Rat} (h:0≤r) (a b c:Nat):far r (dist a c)≤far r (dist a b)+far r (dist b c):=by
 rw [← far_add];exact far_mono h (dist_tri a b c)
theorem far_divInt (r:Rat) (d:Nat):r * Rat.divInt (d:Int) 1=far r d:=by
 unfold far;rw [show Rat.divInt (d:Int) 1=(d:Rat) from by have:=divInt_mul (n:=(d:Int)) (T:=1) (by decide);simp at this;exact this.trans (by push_cast;rfl)]
def lowAt (r:Rat) (t:Nat) (p:Pt):Rat:=p.iv.lo - far r (dist t p.t)
def highAt (r:Rat) (t:Nat) (p:Pt):Rat:=p.iv.hi+far r (dist t p.t)
def IsLo (r:Rat) (t:Nat) (l:List Pt) (x:Rat):Prop:=(∃ p,p ∈ l∧x=lowAt r t p)∧∀ p,p ∈ l→lowAt r t p≤x
def IsHi (r:Rat) (t:Nat) (l:List Pt) (x:Rat):Prop:=(∃ p,p ∈ l∧x=highAt r t p)∧∀ p,p ∈ l→x≤highAt r t p
theorem IsLo.one (r:Rat) (t:Nat) (p:Pt):IsLo r t [p] (lowAt r t p):=⟨⟨p,by simp,rfl⟩,fun q hq=>by simp at hq;subst hq;exact Rat.le_refl⟩
theorem IsHi.one (r:Rat) (t:Nat) (p:Pt):IsHi r t [p] (highAt r t p):=⟨⟨p,by simp,rfl⟩,fun q hq=>by simp at hq;subst hq;exact Rat.le_refl⟩
theorem IsLo.unique {r:Rat} {t:Nat} {l:List Pt} {x y:Rat} (h:IsLo r t l x) (k:IsLo r t l y):x=y:=by
 obtain ⟨⟨p,hp,e⟩,h2⟩:=h;obtain ⟨⟨q,hq,e'⟩,k2⟩:=k;have:=h2 q hq;have:=k2 p hp;grind
theorem IsHi.unique {r:Rat} {t:Nat} {l:List Pt} {x y:Rat} (h:IsHi r t l x) (k:IsHi r t l y):x=y:=by
 obtain ⟨⟨p,hp,e⟩,h2⟩:=h;obtain ⟨⟨q,hq,e'⟩,k2⟩:=k;have:=h2 q hq;have:=k2 p hp;grind
def contra (r:Rat) (a b:Pt):Prop:=far r (dist b.t a.t)<b.iv.lo - a.iv.hi∨far r (dist b.t a.t)<a.iv.lo - b.iv.hi
theorem not_contra {r:Rat} {a b:Pt}:¬ contra r a b ↔ b.iv.lo - a.iv.hi≤far r (dist b.t a.t)∧a.iv.lo - b.iv.hi≤far r (dist b.t a.t):=by
 unfold contra;rw [not_or,Rat.not_lt,Rat.not_lt]
theorem contra_rate {r s:Rat} (h:r≤s) {a b:Pt} (hc:contra s a b):contra r a b:=by
 have:=far_rate h (dist b.t a.t);rcases hc with hc | hc
 ·exact .inl (by grind)
 ·exact .inr (by grind)
def Free (h:Hist):Prop:=∀ p,p ∈ h.pts→∀ q,q ∈ h.pts→¬ contra h.rate p q
def Knows (h:Hist) (t:Nat) (o:Iv):Prop:=IsLo h.rate t h.pts o.lo∧IsHi h.rate t h.pts o.hi
theorem Knows.unique {h:Hist} {t:Nat} {o o':Iv} (k:Knows h t o) (k':Knows h t o'):o=o':=by
 have h1:=k.1.unique k'.1;have h2:=k.2.unique k'.2
 cases o;cases o';simp only at h1 h2;subst h1 h2;rfl
theorem agree {r:Rat} (hr:0≤r) {t:Nat} {a b:Pt} (h:¬ contra r a b):lowAt r t b≤highAt r t a:=by
 have h1:=(not_contra.1 h).1;have h2:=far_tri hr b.t t a.t;rw [dist_comm b.t t] at h2;unfold lowAt highAt;grind
theorem Knows.ok {h:Hist} {t:Nat} {o:Iv} (hr:0≤h.rate) (hf:Free h) (k:Knows h t o):o.Ok:=by
 obtain ⟨⟨⟨p,hp,e⟩,_⟩,⟨⟨q,hq,e'⟩,_⟩⟩:=k;show o.lo≤o.hi;rw [e,e'];exact agree hr (hf q hq p hp)
structure Hist.Ok (h:Hist):Prop where
 rate:0≤h.rate
 rdig:QDig 40 h.rate
 few:h.pts.length≤64
 times:∀ p,p ∈ h.pts→p.t≤1000000
 ivs:∀ p,p ∈ h.pts→p.iv.Ok∧IDig 40 p.iv
 sorted:h.pts.Pairwise fun a b=>a.t≤b.t
theorem dec_nat_dig {n k:Nat} (h:n<10 ^ k):Dig k (n:Int):=by unfold Dig;rw [Int.natAbs_natCast];exact h
theorem far_dig {k:Nat} {r:Rat} (h:QDig k r) {d:Nat} (hd:d≤1000000):QDig (k+7) (far r d):=by
 rw [← far_divInt];exact h.mul (QDig.ofInt (by decide) ((show d<10 ^ 7 by omega) |> dec_nat_dig) ((show Dig 1 1 by unfold Dig;decide).mono (by omega)))
theorem lowAt_dig {j k:Nat} {r:Rat} {p:Pt} {t:Nat} (hr:QDig k r) (hp:IDig j p.iv) (ht:t≤1000000) (hpt:p.t≤1000000):QDig (j+k+8) (lowAt r t p) :=
 (hp.1.sub (far_dig hr (dist_bound ht hpt))).mono (by omega)
theorem highAt_dig {j k:Nat} {r:Rat} {p:Pt} {t:Nat} (hr:QDig k r) (hp:IDig j p.iv) (ht:t≤1000000) (hpt:p.t≤1000000):QDig (j+k+8) (highAt r t p) :=
 (hp.2.add (far_dig hr (dist_bound ht hpt))).mono (by omega)
theorem Knows.dig {j k:Nat} {h:Hist} {t:Nat} {o:Iv} (hk:Knows h t o) (hr:QDig k h.rate) (hj:∀ p,p ∈ h.pts→IDig j p.iv) (ht:t≤1000000) (htimes:∀ p,p ∈ h.pts→p.t≤1000000):IDig (j+k+8) o:=by
 obtain ⟨⟨⟨p,hp,e⟩,_⟩,⟨⟨q,hq,e'⟩,_⟩⟩:=hk;constructor
 ·rw [e];exact lowAt_dig hr (hj p hp) ht (htimes p hp)
 ·rw [e'];exact highAt_dig hr (hj q hq) ht (htimes q hq)
def upTo (l:List Pt) (t:Int):Nat:=l.countP fun p=>decide ((p.t:Int)≤t)
def known (h:Hist) (t:Int):Hist:=⟨h.rate,h.pts.take (upTo h.pts t)⟩
def rowUp (c:Nat→Nat→Bool) (i k:Nat):List (Nat × Nat):=((List.range k).filter fun j=>decide (i<j) && c i j).map fun j=>(i,j)
def conUp (c:Nat→Nat→Bool) (n i:Nat):List (Nat × Nat):=(List.range i).flatMap fun a=>rowUp c a n
instance (r:Rat) (a b:Pt):Decidable (contra r a b):=inferInstanceAs (Decidable (_∨_))
def ptD (l:List Pt) (i:Nat):Pt:=l.getD i ⟨0,⟨0,0⟩⟩
def cAt (h:Hist) (i k:Nat):Bool:=decide (contra h.rate (ptD h.pts i) (ptD h.pts k))
def cons (h:Hist):List (Nat × Nat):=conUp (cAt h) h.pts.length h.pts.length
end Go.Proofs.YtdikaoahgleffaaGreatDoor
namespace Go.Proofs.YtdikaoahgleffaaGreatDoor
open Go Go.Lib
theorem Free.rate {r s:Rat} {l:List Pt} (h:r≤s) (hf:Free ⟨r,l⟩):Free ⟨s,l⟩:=fun p hp q hq hc=>hf p hp q hq (contra_rate h hc)
theorem Knows.more {r:Rat} {l m:List Pt} {t:Nat} {a b:Iv} (h:∀ p,p ∈ l→p ∈ m) (ka:Knows ⟨r,l⟩ t a) (kb:Knows ⟨r,m⟩ t b):b.Sub a:=by
 obtain ⟨⟨⟨p,hp,e⟩,_⟩,⟨⟨q,hq,e'⟩,_⟩⟩:=ka;have h1:=kb.1.2 p (h p hp);have h2:=kb.2.2 q (h q hq);simp only at e e' h1 h2;exact ⟨by rw [e];exact h1,by rw [e'];exact h2⟩
theorem Knows.own {h:Hist} {p:Pt} {d:Iv} (hp:p ∈ h.pts) (k:Knows h p.t d):d.Sub p.iv:=by
 have h1:=k.1.2 p hp;have h2:=k.2.2 p hp;unfold lowAt at h1;unfold highAt at h2;rw [dist_self,far_zero] at h1 h2;exact ⟨by grind,by grind⟩
structure Honest (h:Hist) (v:Nat→Rat) (n:Nat):Prop where
 slow:∀ i k,i<n→k<n→v i - v k≤far h.rate (dist i k)
 seen:∀ p,p ∈ h.pts→p.t<n∧p.iv.Has (v p.t)
theorem Honest.free {h:Hist} {v:Nat→Rat} {n:Nat} (hh:Honest h v n):Free h:=by
 intro p hp q hq;obtain ⟨h1,h2⟩:=hh.seen p hp;obtain ⟨h3,h4⟩:=hh.seen q hq;have h5:=hh.slow q.t p.t h3 h1;have h6:=hh.slow p.t q.t h1 h3;rw [dist_comm p.t q.t] at h6;have a1:=h2.1;have a2:=h2.2;have a3:=h4.1;have a4:=h4.2;exact not_contra.2 ⟨by grind,by grind⟩
def Asks (h:Hist) (t:Nat) (v:Rat) (s:Nat) (l:List Pt) (x:Rat):Prop :=
 (x=v - far h.rate (dist t s)∨∃ q,q ∈ l∧x=q.iv.lo - far h.rate (dist q.t s))∧v - far h.rate (dist t s)≤x∧∀ q,q ∈ l→q.iv.lo - far h.rate (dist q.t s)≤x
theorem Asks.start (h:Hist) (t:Nat) (v:Rat) (s:Nat):Asks h t v s [] (v - far h.rate (dist t s)):=⟨.inl rfl,Rat.le_refl,by simp⟩
theorem Asks.le {h:Hist} {t:Nat} {v:Rat} {s:Nat} {l:List Pt} {x:Rat} {q:Pt} (a:Asks h t v s l x) (hq:q.iv.lo - far h.rate (dist q.t s)≤x):Asks h t v s (l ++ [q]) x :=
 ⟨a.1.elim .inl fun ⟨p,hp,e⟩ => .inr ⟨p,List.mem_append_left _ hp,e⟩,a.2.1,fun p hp=>by
  rcases List.mem_append.1 hp with hp | hp
  ·exact a.2.2 p hp
  ·simp at hp;subst hp;exact hq⟩
theorem Asks.slow {h:Hist} (hr:0≤h.rate) {t s u:Nat} {v x y:Rat} (a:Asks h t v s h.pts x) (b:Asks h t v u h.pts y):x - far h.rate (dist s u)≤y:=by
 rcases a.1 with e | ⟨q,hq,e⟩
 ·have h1:=far_tri hr t s u;have h2:=b.2.1;grind
 ·have h1:=far_tri hr q.t s u;have h2:=b.2.2 q hq;grind
theorem Asks.from {h:Hist} {t s:Nat} {v x:Rat} (a:Asks h t v s h.pts x):v - far h.rate (dist t s)≤x:=a.2.1
theorem Knows.over {h:Hist} {t:Nat} {o:Iv} (k:Knows h t o) {e:Rat} (he:0<e):∃ p,p ∈ h.pts∧p.iv.hi<o.hi+e - far h.rate (dist t p.t):=by
 obtain ⟨⟨q,hq,e'⟩,_⟩:=k.2;unfold highAt at e';exact ⟨q,hq,by grind⟩
theorem Knows.after {h:Hist} {t n:Nat} {o:Iv} (hp:∀ p,p ∈ h.pts→p.t≤t) (k:Knows h t o):Knows h (t+n) ⟨o.lo - far h.rate n,o.hi+far h.rate n⟩:=by
 have key:∀ p,p ∈ h.pts→far h.rate (dist (t+n) p.t)=far h.rate (dist t p.t)+far h.rate n:=fun p hp'=>by
  have:=hp p hp';rw [← far_add];congr 1;unfold dist;omega
 refine ⟨⟨?_,fun p hp' => ?_⟩,⟨?_,fun p hp' => ?_⟩⟩
 ·obtain ⟨⟨p,hp',e⟩,_⟩:=k.1;refine ⟨p,hp',?_⟩;unfold lowAt at *;have:=key p hp';grind
 ·have h1:=k.1.2 p hp';have:=key p hp';unfold lowAt at *;grind
 ·obtain ⟨⟨p,hp',e⟩,_⟩:=k.2;refine ⟨p,hp',?_⟩;unfold highAt at *;have:=key p hp';grind
 ·have h1:=k.2.2 p hp';have:=key p hp';unfold highAt at *;grind
def laterPts (k:Nat) (l:List Pt):List Pt:=l.map fun p=>⟨p.t+k,p.iv⟩
theorem Free.later {r:Rat} {l:List Pt} (k:Nat):Free ⟨r,laterPts k l⟩ ↔ Free ⟨r,l⟩:=by
 have e:∀ p q:Pt,contra r ⟨p.t+k,p.iv⟩ ⟨q.t+k,q.iv⟩ ↔ contra r p q:=fun p q=>by unfold contra;simp only [dist_shift]
 constructor
 ·intro h p hp q hq hc;exact h _ (List.mem_map.2 ⟨p,hp,rfl⟩) _ (List.mem_map.2 ⟨q,hq,rfl⟩) ((e p q).2 hc)
 ·intro h p hp q hq hc;obtain ⟨p',hp',rfl⟩:=List.mem_map.1 hp;obtain ⟨q',hq',rfl⟩:=List.mem_map.1 hq;exact h p' hp' q' hq' ((e p' q').1 hc)
end Go.Proofs.YtdikaoahgleffaaGreatDoor
