/-
 What the eight operations of the laws' calls hand back, as a relation; that results narrow with their operands, their digits, and the bounds that Rounds' differences need. Plain: no program in sight. Drift, plain: histories, what is known at a time, contradictions. No program in sight. Drift, plain: what the laws say of what is known. No program in sight.
-/
import Derived.Test.YtnokpldomlmamaaGreatDoorOQPlain6
namespace Go.Proofs.YtnokpldomlmamaaGreatDoor
open Go Go.Lib
/-- What the k-th operation hands back (T = 10^places): `none` is the error. -/
def OpRes (k:Nat) (a b:Iv) (T:Int) (o:Option Iv):Prop :=
 match k with
 | 0=>o=some (addI a b)
 | 1=>o=some (subI a b)
 | 2=>o=some (mulI a b)
 | 3=>(b.Free∧o=some (divI a b))∨(¬ b.Free∧o=none)
 | 4=>o=some (hullI a b)
 | 5=>((meetI a b).Ok∧o=some (meetI a b))∨(¬ (meetI a b).Ok∧o=none)
 | 6=>(0≤a.lo∧∃ s,SqrtI a T s∧o=some s)∨(a.lo<0∧o=none)
 | _=>o=some (roundI a T)
theorem OpRes.ok {k:Nat} {a b s:Iv} {T:Int} (hT:0<T) (ha:a.Ok) (hb:b.Ok) (h:OpRes k a b T (some s)):s.Ok:=by
 unfold OpRes at h
 split at h
 ·cases h;exact addI_ok ha hb
 ·cases h;exact subI_ok ha hb
 ·cases h;exact mulI_ok ha hb
 ·rcases h with ⟨h0,h⟩ | ⟨_,h⟩
  ·cases h;exact divI_ok h0 ha hb
  ·cases h
 ·cases h;exact hullI_ok ha
 ·rcases h with ⟨h0,h⟩ | ⟨_,h⟩
  ·cases h;exact h0
  ·cases h
 ·rcases h with ⟨_,t,ht,h⟩ | ⟨_,h⟩
  ·cases h;exact SqrtI.ok hT ha ht
  ·cases h
 ·cases h
  have h1:=sub_roundI (a:=a) hT
  have h2:a.lo≤a.hi:=ha
  exact Rat.le_trans (Rat.le_trans h1.1 h2) h1.2
/-- Narrower operands: a narrower result; and where only the wider ones have one, it is the meet. -/
theorem OpRes.sub {k:Nat} {a b c d t:Iv} {T:Int} {o:Option Iv} (hT:0<T) (ha:a.Ok) (hb:b.Ok) (h1:a.Sub c) (h2:b.Sub d)
  (h:OpRes k a b T o) (h':OpRes k c d T (some t)):(∃ s,o=some s∧s.Sub t)∨(k=5∧o=none):=by
 unfold OpRes at h h'
 split at h <;> simp only at h'
 ·cases h';exact .inl ⟨_,h,addI_sub h1 h2⟩
 ·cases h';exact .inl ⟨_,h,subI_sub h1 h2⟩
 ·cases h';exact .inl ⟨_,h,mulI_sub ha hb h1 h2⟩
 ·rcases h' with ⟨h0,h'⟩ | ⟨_,h'⟩
  ·cases h'
   rcases h with ⟨_,h⟩ | ⟨hn,_⟩
   ·exact .inl ⟨_,h,divI_sub h0 ha hb h1 h2⟩
   ·exact absurd (h0.sub h2) hn
  ·cases h'
 ·cases h';exact .inl ⟨_,h,hullI_sub ha hb h1 h2⟩
 ·rcases h' with ⟨h0,h'⟩ | ⟨_,h'⟩
  ·cases h'
   rcases h with ⟨hm,h⟩ | ⟨_,h⟩
   ·exact .inl ⟨_,h,meetI_sub hm h1 h2⟩
   ·exact .inr ⟨rfl,h⟩
  ·cases h'
 ·rcases h' with ⟨h0,u,hu,h'⟩ | ⟨_,h'⟩
  ·cases h'
   rcases h with ⟨_,s,hs,h⟩ | ⟨hn,_⟩
   ·exact .inl ⟨_,h,SqrtI.sub hT h1 hs hu⟩
   ·exact absurd (Rat.le_trans h0 h1.1) (Rat.not_le.2 hn)
  ·cases h'
 ·cases h';exact .inl ⟨_,h,roundI_sub hT h1⟩
/-- How long the results are. -/
theorem OpRes.dig {k j p:Nat} {a b s:Iv} (hj:0<j) (hb:b.Ok) (da:IDig j a) (db:IDig j b) (h:OpRes k a b (TT p) (some s)):IDig (j+j+p+p+1) s:=by
 unfold OpRes at h
 split at h
 ·cases h;exact (addI_dig da db).mono (by omega)
 ·cases h;exact (subI_dig da db).mono (by omega)
 ·cases h;exact (mulI_dig da db).mono (by omega)
 ·rcases h with ⟨h0,h⟩ | ⟨_,h⟩
  ·cases h;exact (divI_dig da db h0 hb).mono (by omega)
  ·cases h
 ·cases h;exact (hullI_dig da db).mono (by omega)
 ·rcases h with ⟨h0,h⟩ | ⟨_,h⟩
  ·cases h;exact (meetI_dig da db).mono (by omega)
  ·cases h
 ·rcases h with ⟨_,t,ht,h⟩ | ⟨_,h⟩
  ·cases h;exact (SqrtI.dig da hj ht).mono (by omega)
  ·cases h
 ·cases h;exact (roundI_dig da).mono (by omega)
/-- An index that an integer determines. -/
def pk (c n:Int):Int:=if c<0 then (-(c+1)) % n else c % n
theorem pk_nonneg (c:Int) {n:Int} (h:0<n):0≤pk c n:=by unfold pk;split <;> exact Int.emod_nonneg _ (by omega)
theorem pk_lt (c:Int) {n:Int} (h:0<n):pk c n<n:=by unfold pk;split <;> exact Int.emod_lt_of_pos _ h
end Go.Proofs.YtnokpldomlmamaaGreatDoor
namespace Go.Proofs.YtnokpldomlmamaaGreatDoor
open Go Go.Lib
structure Pt where
 t:Nat
 iv:Iv
structure Hist where
 rate:Rat
 pts:List Pt
def dist (a b:Nat):Nat:=(a - b)+(b - a)
theorem dist_comm (a b:Nat):dist a b=dist b a:=by unfold dist;omega
theorem dist_self (a:Nat):dist a a=0:=by unfold dist;omega
theorem dist_tri (a b c:Nat):dist a c≤dist a b+dist b c:=by unfold dist;omega
theorem dist_le {a b:Nat} (h:a≤b):dist a b=b - a:=by unfold dist;omega
theorem dist_shift (a b k:Nat):dist (a+k) (b+k)=dist a b:=by unfold dist;omega
theorem dist_bound {a b n:Nat} (ha:a≤n) (hb:b≤n):dist a b≤n:=by unfold dist;omega
/-- How far a value gets. -/
def far (r:Rat) (d:Nat):Rat:=r * (d:Rat)
theorem far_zero (r:Rat):far r 0=0:=by unfold far;grind
theorem far_nonneg {r:Rat} (h:0≤r) (d:Nat):0≤far r d:=Rat.mul_nonneg h (by exact_mod_cast Nat.zero_le d)
theorem far_add (r:Rat) (d e:Nat):far r (d+e)=far r d+far r e:=by unfold far;push_cast;grind
theorem far_mono {r:Rat} (h:0≤r) {d e:Nat} (hd:d≤e):far r d≤far r e:=by
 obtain ⟨k,rfl⟩:∃ k,e=d+k:=⟨e - d,by omega⟩
 rw [far_add]
 have:=far_nonneg h k
 grind
theorem far_rate {r s:Rat} (h:r≤s) (d:Nat):far r d≤far s d:=by
 unfold far
 have h1:0≤s - r:=by grind
 have h2:0≤(s - r) * (d:Rat):=Rat.mul_nonneg h1 (by exact_mod_cast Nat.zero_le d)
 grind
theorem far_tri {r:Rat} (h:0≤r) (a b c:Nat):far r (dist a c)≤far r (dist a b)+far r (dist b c):=by
 rw [← far_add];exact far_mono h (dist_tri a b c)
theorem far_divInt (r:Rat) (d:Nat):r * Rat.divInt (d:Int) 1=far r d:=by
 unfold far
 rw [show Rat.divInt (d:Int) 1=(d:Rat) from by have:=divInt_mul (n:=(d:Int)) (T:=1) (by decide);simp at this;exact this.trans (by push_cast;rfl)]
def lowAt (r:Rat) (t:Nat) (p:Pt):Rat:=p.iv.lo - far r (dist t p.t)
def highAt (r:Rat) (t:Nat) (p:Pt):Rat:=p.iv.hi+far r (dist t p.t)
/-- The greatest lower end, the least upper end. -/
def IsLo (r:Rat) (t:Nat) (l:List Pt) (x:Rat):Prop:=(∃ p,p ∈ l∧x=lowAt r t p)∧∀ p,p ∈ l→lowAt r t p≤x
def IsHi (r:Rat) (t:Nat) (l:List Pt) (x:Rat):Prop:=(∃ p,p ∈ l∧x=highAt r t p)∧∀ p,p ∈ l→x≤highAt r t p
theorem IsLo.one (r:Rat) (t:Nat) (p:Pt):IsLo r t [p] (lowAt r t p):=⟨⟨p,by simp,rfl⟩,fun q hq=>by simp at hq;subst hq;exact Rat.le_refl⟩
theorem IsHi.one (r:Rat) (t:Nat) (p:Pt):IsHi r t [p] (highAt r t p):=⟨⟨p,by simp,rfl⟩,fun q hq=>by simp at hq;subst hq;exact Rat.le_refl⟩
theorem IsLo.snoc_gt {r:Rat} {t:Nat} {l:List Pt} {x:Rat} {p:Pt} (h:IsLo r t l x) (hp:x<lowAt r t p):IsLo r t (l ++ [p]) (lowAt r t p) :=
 ⟨⟨p,by simp,rfl⟩,fun q hq=>by
  rcases List.mem_append.1 hq with hq | hq
  ·exact Rat.le_trans (h.2 q hq) (Rat.le_of_lt hp)
  ·simp at hq;subst hq;exact Rat.le_refl⟩
theorem IsLo.snoc_le {r:Rat} {t:Nat} {l:List Pt} {x:Rat} {p:Pt} (h:IsLo r t l x) (hp:lowAt r t p≤x):IsLo r t (l ++ [p]) x :=
 ⟨h.1.elim fun q hq=>⟨q,List.mem_append_left _ hq.1,hq.2⟩,fun q hq=>by
  rcases List.mem_append.1 hq with hq | hq
  ·exact h.2 q hq
  ·simp at hq;subst hq;exact hp⟩
theorem IsHi.snoc_lt {r:Rat} {t:Nat} {l:List Pt} {x:Rat} {p:Pt} (h:IsHi r t l x) (hp:highAt r t p<x):IsHi r t (l ++ [p]) (highAt r t p) :=
 ⟨⟨p,by simp,rfl⟩,fun q hq=>by
  rcases List.mem_append.1 hq with hq | hq
  ·exact Rat.le_trans (Rat.le_of_lt hp) (h.2 q hq)
  ·simp at hq;subst hq;exact Rat.le_refl⟩
theorem IsHi.snoc_ge {r:Rat} {t:Nat} {l:List Pt} {x:Rat} {p:Pt} (h:IsHi r t l x) (hp:x≤highAt r t p):IsHi r t (l ++ [p]) x :=
 ⟨h.1.elim fun q hq=>⟨q,List.mem_append_left _ hq.1,hq.2⟩,fun q hq=>by
  rcases List.mem_append.1 hq with hq | hq
  ·exact h.2 q hq
  ·simp at hq;subst hq;exact hp⟩
theorem IsLo.unique {r:Rat} {t:Nat} {l:List Pt} {x y:Rat} (h:IsLo r t l x) (k:IsLo r t l y):x=y:=by
 obtain ⟨⟨p,hp,e⟩,h2⟩:=h
 obtain ⟨⟨q,hq,e'⟩,k2⟩:=k
 have:=h2 q hq
 have:=k2 p hp
 grind
theorem IsHi.unique {r:Rat} {t:Nat} {l:List Pt} {x y:Rat} (h:IsHi r t l x) (k:IsHi r t l y):x=y:=by
 obtain ⟨⟨p,hp,e⟩,h2⟩:=h
 obtain ⟨⟨q,hq,e'⟩,k2⟩:=k
 have:=h2 q hq
 have:=k2 p hp
 grind
/-- Two points contradict each other. -/
def contra (r:Rat) (a b:Pt):Prop:=far r (dist b.t a.t)<b.iv.lo - a.iv.hi∨far r (dist b.t a.t)<a.iv.lo - b.iv.hi
theorem contra_comm {r:Rat} {a b:Pt}:contra r a b ↔ contra r b a:=by unfold contra;rw [dist_comm b.t a.t];exact Or.comm
theorem contra_self {r:Rat} (h:0≤r) {a:Pt} (ha:a.iv.Ok):¬ contra r a a:=by
 have h1:=far_nonneg h (dist a.t a.t)
 have h2:a.iv.lo≤a.iv.hi:=ha
 unfold contra;grind
theorem not_contra {r:Rat} {a b:Pt}:¬ contra r a b ↔ b.iv.lo - a.iv.hi≤far r (dist b.t a.t)∧a.iv.lo - b.iv.hi≤far r (dist b.t a.t):=by
 unfold contra
 rw [not_or,Rat.not_lt,Rat.not_lt]
theorem contra_rate {r s:Rat} (h:r≤s) {a b:Pt} (hc:contra s a b):contra r a b:=by
 have:=far_rate h (dist b.t a.t)
 rcases hc with hc | hc
 ·exact .inl (by grind)
 ·exact .inr (by grind)
/-- No two points contradict each other. -/
def Free (h:Hist):Prop:=∀ p,p ∈ h.pts→∀ q,q ∈ h.pts→¬ contra h.rate p q
/-- What is known at a time. -/
def Knows (h:Hist) (t:Nat) (o:Iv):Prop:=IsLo h.rate t h.pts o.lo∧IsHi h.rate t h.pts o.hi
theorem Knows.unique {h:Hist} {t:Nat} {o o':Iv} (k:Knows h t o) (k':Knows h t o'):o=o':=by
 have h1:=k.1.unique k'.1
 have h2:=k.2.unique k'.2
 cases o;cases o';simp only at h1 h2;subst h1 h2;rfl
/-- Points that agree reach each other. -/
theorem agree {r:Rat} (hr:0≤r) {t:Nat} {a b:Pt} (h:¬ contra r a b):lowAt r t b≤highAt r t a:=by
 have h1:=(not_contra.1 h).1
 have h2:=far_tri hr b.t t a.t
 rw [dist_comm b.t t] at h2
 unfold lowAt highAt
 grind
theorem Knows.ok {h:Hist} {t:Nat} {o:Iv} (hr:0≤h.rate) (hf:Free h) (k:Knows h t o):o.Ok:=by
 obtain ⟨⟨⟨p,hp,e⟩,_⟩,⟨⟨q,hq,e'⟩,_⟩⟩:=k
 show o.lo≤o.hi
 rw [e,e']
 exact agree hr (hf q hq p hp)
/-- Valid histories. -/
structure Hist.Ok (h:Hist):Prop where
 rate:0≤h.rate
 rdig:QDig 40 h.rate
 few:h.pts.length≤64
 times:∀ p,p ∈ h.pts→p.t≤1000000
 ivs:∀ p,p ∈ h.pts→p.iv.Ok∧IDig 40 p.iv
 sorted:h.pts.Pairwise fun a b=>a.t≤b.t
theorem dec_nat_dig {n k:Nat} (h:n<10 ^ k):Dig k (n:Int):=by unfold Dig;rw [Int.natAbs_natCast];exact h
theorem far_dig {k:Nat} {r:Rat} (h:QDig k r) {d:Nat} (hd:d≤1000000):QDig (k+7) (far r d):=by
 rw [← far_divInt]
 exact h.mul (QDig.ofInt (by decide) ((show d<10 ^ 7 by omega) |> dec_nat_dig) ((show Dig 1 1 by unfold Dig;decide).mono (by omega)))
theorem lowAt_dig {j k:Nat} {r:Rat} {p:Pt} {t:Nat} (hr:QDig k r) (hp:IDig j p.iv) (ht:t≤1000000) (hpt:p.t≤1000000):QDig (j+k+8) (lowAt r t p) :=
 (hp.1.sub (far_dig hr (dist_bound ht hpt))).mono (by omega)
theorem highAt_dig {j k:Nat} {r:Rat} {p:Pt} {t:Nat} (hr:QDig k r) (hp:IDig j p.iv) (ht:t≤1000000) (hpt:p.t≤1000000):QDig (j+k+8) (highAt r t p) :=
 (hp.2.add (far_dig hr (dist_bound ht hpt))).mono (by omega)
theorem Knows.dig {j k:Nat} {h:Hist} {t:Nat} {o:Iv} (hk:Knows h t o) (hr:QDig k h.rate) (hj:∀ p,p ∈ h.pts→IDig j p.iv) (ht:t≤1000000) (htimes:∀ p,p ∈ h.pts→p.t≤1000000):IDig (j+k+8) o:=by
 obtain ⟨⟨⟨p,hp,e⟩,_⟩,⟨⟨q,hq,e'⟩,_⟩⟩:=hk
 constructor
 ·rw [e];exact lowAt_dig hr (hj p hp) ht (htimes p hp)
 ·rw [e'];exact highAt_dig hr (hj q hq) ht (htimes q hq)
/-- How many points there are up to a time. -/
def upTo (l:List Pt) (t:Int):Nat:=l.countP fun p=>decide ((p.t:Int)≤t)
theorem upTo_le (l:List Pt) (t:Int):upTo l t≤l.length:=List.countP_le_length
theorem upTo_spec (t:Int):∀ l:List Pt,(l.Pairwise fun a b=>a.t≤b.t)→(∀ p,p ∈ l.take (upTo l t)→(p.t:Int)≤t)∧∀ p,p ∈ l.drop (upTo l t)→t<(p.t:Int)
 | [],_=>by simp
 | p :: l,hs=>by
  obtain ⟨h1,h2⟩:=List.pairwise_cons.1 hs
  have ih:=upTo_spec t l h2
  by_cases hp:(p.t:Int)≤t
  ·have e:upTo (p :: l) t=upTo l t+1:=by unfold upTo;rw [List.countP_cons_of_pos (by simpa using hp)]
   rw [e,List.take_succ_cons,List.drop_succ_cons]
   refine ⟨fun q hq => ?_,ih.2⟩
   rcases List.mem_cons.1 hq with rfl | hq
   ·exact hp
   ·exact ih.1 q hq
  ·have e:upTo (p :: l) t=0:=by
    unfold upTo
    rw [List.countP_eq_zero]
    intro q hq
    have:p.t≤q.t:=by
     rcases List.mem_cons.1 hq with rfl | hq
     ·exact Nat.le_refl _
     ·exact h1 q hq
    simp only [decide_eq_true_eq]
    omega
   rw [e]
   refine ⟨by simp,fun q hq => ?_⟩
   rw [List.drop_zero] at hq
   rcases List.mem_cons.1 hq with rfl | hq
   ·omega
   ·have:=h1 q hq;omega
/-- The points, with a further one behind those of its time. -/
def ins (l:List Pt) (p:Pt):List Pt:=l.take (upTo l p.t) ++ p :: l.drop (upTo l p.t)
theorem mem_ins {l:List Pt} {p q:Pt}:q ∈ ins l p ↔ q=p∨q ∈ l:=by
 unfold ins
 rw [List.mem_append,List.mem_cons]
 have h:q ∈ l ↔ q ∈ l.take (upTo l p.t)∨q ∈ l.drop (upTo l p.t):=by rw [← List.mem_append,List.take_append_drop]
 rw [h]
 constructor
 ·rintro (h | h | h)
  ·exact .inr (.inl h)
  ·exact .inl h
  ·exact .inr (.inr h)
 ·rintro (h | h | h)
  ·exact .inr (.inl h)
  ·exact .inl h
  ·exact .inr (.inr h)
theorem ins_length (l:List Pt) (p:Pt):(ins l p).length=l.length+1:=by
 unfold ins
 have:=upTo_le l p.t
 simp;omega
theorem ins_sorted {l:List Pt} (hs:l.Pairwise fun a b=>a.t≤b.t) (p:Pt):(ins l p).Pairwise fun a b=>a.t≤b.t:=by
 obtain ⟨h1,h2⟩:=upTo_spec p.t l hs
 unfold ins
 rw [List.pairwise_append,List.pairwise_cons]
 refine ⟨hs.sublist (List.take_sublist _ _),⟨fun q hq=>by have:=h2 q hq;omega,hs.sublist (List.drop_sublist _ _)⟩,fun a ha b hb => ?_⟩
 have:=h1 a ha
 rcases List.mem_cons.1 hb with rfl | hb
 ·omega
 ·have:=h2 b hb;omega
theorem ins_ok {h:Hist} {p:Pt} (ho:h.Ok) (hn:h.pts.length≤63) (ht:p.t≤1000000) (hi:p.iv.Ok∧IDig 40 p.iv):Hist.Ok ⟨h.rate,ins h.pts p⟩ where
 rate:=ho.rate
 rdig:=ho.rdig
 few:=by show (ins h.pts p).length≤64;rw [ins_length];omega
 times:=fun q hq=>by
  rcases mem_ins.1 hq with rfl | hq
  ·exact ht
  ·exact ho.times q hq
 ivs:=fun q hq=>by
  rcases mem_ins.1 hq with rfl | hq
  ·exact hi
  ·exact ho.ivs q hq
 sorted:=ins_sorted ho.sorted p
/-- The points up to a time, as a history. -/
def known (h:Hist) (t:Int):Hist:=⟨h.rate,h.pts.take (upTo h.pts t)⟩
theorem known_ok {h:Hist} (ho:h.Ok) (t:Int):(known h t).Ok where
 rate:=ho.rate
 rdig:=ho.rdig
 few:=Nat.le_trans (List.length_take_le' _ _) ho.few
 times:=fun q hq=>ho.times q (List.mem_of_mem_take hq)
 ivs:=fun q hq=>ho.ivs q (List.mem_of_mem_take hq)
 sorted:=ho.sorted.sublist (List.take_sublist _ _)
/-- The pairs (i, k), i below k, at which a test holds, in their order: those that have come when a row is over up to k; when i rows are over. -/
def rowUp (c:Nat→Nat→Bool) (i k:Nat):List (Nat × Nat):=((List.range k).filter fun j=>decide (i<j) && c i j).map fun j=>(i,j)
def conUp (c:Nat→Nat→Bool) (n i:Nat):List (Nat × Nat):=(List.range i).flatMap fun a=>rowUp c a n
theorem rowUp_start (c:Nat→Nat→Bool) (i:Nat):rowUp c i (i+1)=[]:=by
 unfold rowUp
 rw [List.map_eq_nil_iff,List.filter_eq_nil_iff]
 intro j hj
 have:j<i+1:=List.mem_range.1 hj
 simp;omega
theorem rowUp_yes {c:Nat→Nat→Bool} {i k:Nat} (h:i<k) (hc:c i k=true):rowUp c i (k+1)=rowUp c i k ++ [(i,k)]:=by
 unfold rowUp
 rw [List.range_succ,List.filter_append,List.map_append]
 simp [h,hc]
theorem rowUp_no {c:Nat→Nat→Bool} {i k:Nat} (hc:c i k=false):rowUp c i (k+1)=rowUp c i k:=by
 unfold rowUp
 rw [List.range_succ,List.filter_append,List.map_append]
 simp [hc]
theorem conUp_succ (c:Nat→Nat→Bool) (n i:Nat):conUp c n (i+1)=conUp c n i ++ rowUp c i n:=by
 unfold conUp
 rw [List.range_succ,List.flatMap_append]
 simp
theorem conUp_nil {c:Nat→Nat→Bool} {n:Nat}:conUp c n n=[] ↔ ∀ i k,i<k→k<n→c i k=false:=by
 unfold conUp rowUp
 rw [List.flatMap_eq_nil_iff]
 constructor
 ·intro h i k hik hk
  have h1:=h i (List.mem_range.2 (by omega))
  rw [List.map_eq_nil_iff,List.filter_eq_nil_iff] at h1
  have:=h1 k (List.mem_range.2 hk)
  simpa [hik] using this
 ·intro h i hi
  rw [List.map_eq_nil_iff,List.filter_eq_nil_iff]
  intro k hk
  have hk':=List.mem_range.1 hk
  by_cases hik:i<k
  ·simp [h i k hik hk']
  ·simp [hik]
instance (r:Rat) (a b:Pt):Decidable (contra r a b):=inferInstanceAs (Decidable (_∨_))
def ptD (l:List Pt) (i:Nat):Pt:=l.getD i ⟨0,⟨0,0⟩⟩
def cAt (h:Hist) (i k:Nat):Bool:=decide (contra h.rate (ptD h.pts i) (ptD h.pts k))
/-- The pairs of points that contradict each other. -/
def cons (h:Hist):List (Nat × Nat):=conUp (cAt h) h.pts.length h.pts.length
theorem ptD_mem {l:List Pt} {i:Nat} (h:i<l.length):ptD l i ∈ l:=by
 unfold ptD
 rw [List.getD_eq_getElem?_getD,List.getElem?_eq_getElem h]
 exact List.getElem_mem h
theorem mem_ptD {l:List Pt} {p:Pt} (h:p ∈ l):∃ i,i<l.length∧ptD l i=p:=by
 obtain ⟨i,hi,e⟩:=List.getElem_of_mem h
 exact ⟨i,hi,by unfold ptD;rw [List.getD_eq_getElem?_getD,List.getElem?_eq_getElem hi];exact e⟩
theorem cons_nil {h:Hist} (ho:h.Ok):cons h=[] ↔ Free h:=by
 unfold cons
 rw [conUp_nil]
 constructor
 ·intro hc p hp q hq
  obtain ⟨i,hi,rfl⟩:=mem_ptD hp
  obtain ⟨k,hk,rfl⟩:=mem_ptD hq
  rcases Nat.lt_trichotomy i k with hik | rfl | hik
  ·exact of_decide_eq_false (hc i k hik hk)
  ·exact contra_self ho.rate (ho.ivs _ (ptD_mem hi)).1
  ·exact fun h=>of_decide_eq_false (hc k i hik hi) (contra_comm.1 h)
 ·intro hf i k hik hk
  exact decide_eq_false (hf _ (ptD_mem (by omega)) _ (ptD_mem hk))
end Go.Proofs.YtnokpldomlmamaaGreatDoor
namespace Go.Proofs.YtnokpldomlmamaaGreatDoor
open Go Go.Lib
theorem Free.rate {r s:Rat} {l:List Pt} (h:r≤s) (hf:Free ⟨r,l⟩):Free ⟨s,l⟩:=fun p hp q hq hc=>hf p hp q hq (contra_rate h hc)
theorem Knows.more {r:Rat} {l m:List Pt} {t:Nat} {a b:Iv} (h:∀ p,p ∈ l→p ∈ m) (ka:Knows ⟨r,l⟩ t a) (kb:Knows ⟨r,m⟩ t b):b.Sub a:=by
 obtain ⟨⟨⟨p,hp,e⟩,_⟩,⟨⟨q,hq,e'⟩,_⟩⟩:=ka
 have h1:=kb.1.2 p (h p hp)
 have h2:=kb.2.2 q (h q hq)
 simp only at e e' h1 h2
 exact ⟨by rw [e];exact h1,by rw [e'];exact h2⟩
theorem Knows.own {h:Hist} {p:Pt} {d:Iv} (hp:p ∈ h.pts) (k:Knows h p.t d):d.Sub p.iv:=by
 have h1:=k.1.2 p hp
 have h2:=k.2.2 p hp
 unfold lowAt at h1
 unfold highAt at h2
 rw [dist_self,far_zero] at h1 h2
 exact ⟨by grind,by grind⟩
/-- A true value that changes no faster than the rate, and was in the interval of each point. -/
structure Honest (h:Hist) (v:Nat→Rat) (n:Nat):Prop where
 slow:∀ i k,i<n→k<n→v i - v k≤far h.rate (dist i k)
 seen:∀ p,p ∈ h.pts→p.t<n∧p.iv.Has (v p.t)
theorem Honest.free {h:Hist} {v:Nat→Rat} {n:Nat} (hh:Honest h v n):Free h:=by
 intro p hp q hq
 obtain ⟨h1,h2⟩:=hh.seen p hp
 obtain ⟨h3,h4⟩:=hh.seen q hq
 have h5:=hh.slow q.t p.t h3 h1
 have h6:=hh.slow p.t q.t h1 h3
 rw [dist_comm p.t q.t] at h6
 have a1:=h2.1;have a2:=h2.2;have a3:=h4.1;have a4:=h4.2
 exact not_contra.2 ⟨by grind,by grind⟩
/-- The greatest value at a time s that the value v at the time t, and the lower ends of the points, ask for. -/
def Asks (h:Hist) (t:Nat) (v:Rat) (s:Nat) (l:List Pt) (x:Rat):Prop :=
 (x=v - far h.rate (dist t s)∨∃ q,q ∈ l∧x=q.iv.lo - far h.rate (dist q.t s))∧v - far h.rate (dist t s)≤x∧∀ q,q ∈ l→q.iv.lo - far h.rate (dist q.t s)≤x
theorem Asks.start (h:Hist) (t:Nat) (v:Rat) (s:Nat):Asks h t v s [] (v - far h.rate (dist t s)):=⟨.inl rfl,Rat.le_refl,by simp⟩
theorem Asks.le {h:Hist} {t:Nat} {v:Rat} {s:Nat} {l:List Pt} {x:Rat} {q:Pt} (a:Asks h t v s l x) (hq:q.iv.lo - far h.rate (dist q.t s)≤x):Asks h t v s (l ++ [q]) x :=
 ⟨a.1.elim .inl fun ⟨p,hp,e⟩ => .inr ⟨p,List.mem_append_left _ hp,e⟩,a.2.1,fun p hp=>by
  rcases List.mem_append.1 hp with hp | hp
  ·exact a.2.2 p hp
  ·simp at hp;subst hp;exact hq⟩
/-- One of the values, less what it can fall, is at most the other one. -/
theorem Asks.slow {h:Hist} (hr:0≤h.rate) {t s u:Nat} {v x y:Rat} (a:Asks h t v s h.pts x) (b:Asks h t v u h.pts y):x - far h.rate (dist s u)≤y:=by
 rcases a.1 with e | ⟨q,hq,e⟩
 ·have h1:=far_tri hr t s u
  have h2:=b.2.1
  grind
 ·have h1:=far_tri hr q.t s u
  have h2:=b.2.2 q hq
  grind
theorem Asks.from {h:Hist} {t s:Nat} {v x:Rat} (a:Asks h t v s h.pts x):v - far h.rate (dist t s)≤x:=a.2.1
theorem Knows.over {h:Hist} {t:Nat} {o:Iv} (k:Knows h t o) {e:Rat} (he:0<e):∃ p,p ∈ h.pts∧p.iv.hi<o.hi+e - far h.rate (dist t p.t):=by
 obtain ⟨⟨q,hq,e'⟩,_⟩:=k.2
 unfold highAt at e'
 exact ⟨q,hq,by grind⟩
/-- Behind the last point what is known grows by the rate, at both ends. -/
theorem Knows.after {h:Hist} {t n:Nat} {o:Iv} (hp:∀ p,p ∈ h.pts→p.t≤t) (k:Knows h t o):Knows h (t+n) ⟨o.lo - far h.rate n,o.hi+far h.rate n⟩:=by
 have key:∀ p,p ∈ h.pts→far h.rate (dist (t+n) p.t)=far h.rate (dist t p.t)+far h.rate n:=fun p hp'=>by
  have:=hp p hp'
  rw [← far_add]
  congr 1
  unfold dist;omega
 refine ⟨⟨?_,fun p hp' => ?_⟩,⟨?_,fun p hp' => ?_⟩⟩
 ·obtain ⟨⟨p,hp',e⟩,_⟩:=k.1
  refine ⟨p,hp',?_⟩
  unfold lowAt at *
  have:=key p hp'
  grind
 ·have h1:=k.1.2 p hp'
  have:=key p hp'
  unfold lowAt at *
  grind
 ·obtain ⟨⟨p,hp',e⟩,_⟩:=k.2
  refine ⟨p,hp',?_⟩
  unfold highAt at *
  have:=key p hp'
  grind
 ·have h1:=k.2.2 p hp'
  have:=key p hp'
  unfold highAt at *
  grind
theorem known_times (h:Hist) (ho:h.Ok) (t:Int):∀ p,p ∈ (known h t).pts→(p.t:Int)≤t:=(upTo_spec t h.pts ho.sorted).1
/-- All times later. -/
def laterPts (k:Nat) (l:List Pt):List Pt:=l.map fun p=>⟨p.t+k,p.iv⟩
theorem Free.later {r:Rat} {l:List Pt} (k:Nat):Free ⟨r,laterPts k l⟩ ↔ Free ⟨r,l⟩:=by
 have e:∀ p q:Pt,contra r ⟨p.t+k,p.iv⟩ ⟨q.t+k,q.iv⟩ ↔ contra r p q:=fun p q=>by unfold contra;simp only [dist_shift]
 constructor
 ·intro h p hp q hq hc
  exact h _ (List.mem_map.2 ⟨p,hp,rfl⟩) _ (List.mem_map.2 ⟨q,hq,rfl⟩) ((e p q).2 hc)
 ·intro h p hp q hq hc
  obtain ⟨p',hp',rfl⟩:=List.mem_map.1 hp
  obtain ⟨q',hq',rfl⟩:=List.mem_map.1 hq
  exact h p' hp' q' hq' ((e p' q').1 hc)
/-- The two points alone contradict each other: what is known is nothing; a rate that bridges the gap. -/
theorem two_free {r:Rat} (hr:0≤r) {a b:Pt} (ha:a.iv.Ok) (hb:b.iv.Ok):Free ⟨r,[a,b]⟩ ↔ ¬ contra r a b:=by
 constructor
 ·intro h;exact h a (by simp) b (by simp)
 ·intro h p hp q hq
  simp only [List.mem_cons,List.not_mem_nil,or_false] at hp hq
  rcases hp with rfl | rfl <;> rcases hq with rfl | rfl
  ·exact contra_self hr ha
  ·exact h
  ·exact fun hc=>h (contra_comm.1 hc)
  ·exact contra_self hr hb
end Go.Proofs.YtnokpldomlmamaaGreatDoor
