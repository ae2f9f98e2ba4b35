/-
 Plain mathematics of fractions: Lean's rational numbers, as numerals. No program in sight.
-/
import Derived.Test.YtdikaoahgleffaaGreatDoorWPlain3
namespace Go.Proofs.YtdikaoahgleffaaGreatDoor
open Go.Lib
def QDig (k:Nat) (q:Rat):Prop:=Dig k q.num∧Dig k (q.den:Int)
theorem QDig.mono {j k:Nat} {q:Rat} (h:QDig j q) (hjk:j≤k):QDig k q:=⟨h.1.mono hjk,h.2.mono hjk⟩
theorem den_pos (q:Rat):0<(q.den:Int):=by have:=q.den_pos;omega
theorem rat_parts (q:Rat):q.num.natAbs.gcd (q.den:Int).natAbs=1:=by
 rw [Int.natAbs_natCast];exact q.reduced
theorem reduced_parts {n d:Int} (hd:0<d):(Rat.divInt n d).num=n / ((n.natAbs.gcd d.natAbs:Nat):Int)∧((Rat.divInt n d).den:Int)=d / ((n.natAbs.gcd d.natAbs:Nat):Int):=by
 rw [Rat.num_divInt,Rat.den_divInt,if_neg (by omega)];have hs:d.sign=1:=Int.sign_eq_one_of_pos hd;have hg:d.gcd n=n.natAbs.gcd d.natAbs:=by unfold Int.gcd;exact Nat.gcd_comm _ _
 rw [hs,Int.one_mul,hg];refine ⟨rfl,?_⟩;rw [Int.natCast_ediv];congr 1;omega
theorem divInt_neg {n d:Int}:Rat.divInt (-n) (-d)=Rat.divInt n d:=by
 rw [Rat.divInt_eq_div,Rat.divInt_eq_div,Rat.intCast_neg,Rat.intCast_neg];grind
theorem reduced_dig {k:Nat} {n d:Int} (hd:0<d) (hn:Dig k n) (hk:Dig k d):QDig k (Rat.divInt n d):=by
 obtain ⟨h1,h2⟩:=reduced_parts (n:=n) hd;exact ⟨by rw [h1];exact hn.ediv _,by rw [h2];exact hk.ediv _⟩
theorem add_parts (a b:Rat):Rat.divInt (a.num * b.den+b.num * a.den) (a.den * b.den)=a+b:=by
 have ha:=den_pos a;have hb:=den_pos b;rw [← Rat.divInt_add_divInt _ _ (by omega) (by omega)];rw [Rat.num_divInt_den,Rat.num_divInt_den]
theorem sub_parts (a b:Rat):Rat.divInt (a.num * b.den - b.num * a.den) (a.den * b.den)=a - b:=by
 have ha:=den_pos a;have hb:=den_pos b;rw [← Rat.divInt_sub_divInt _ _ (by omega) (by omega)];rw [Rat.num_divInt_den,Rat.num_divInt_den]
theorem mul_parts (a b:Rat):Rat.divInt (a.num * b.num) (a.den * b.den)=a * b:=by
 rw [← Rat.divInt_mul_divInt];rw [Rat.num_divInt_den,Rat.num_divInt_den]
theorem div_parts (a b:Rat):Rat.divInt (a.num * b.den) (a.den * b.num)=a / b:=by
 rw [← Rat.divInt_mul_divInt,Rat.div_def,Rat.inv_def];rw [Rat.num_divInt_den]
def cmpQ (a b:Rat):Int:=if a<b then -1 else if b<a then 1 else 0
def cmpI (a b:Int):Int:=if a<b then -1 else if b<a then 1 else 0
theorem cmpQ_parts (a b:Rat):cmpQ a b=cmpI (a.num * b.den) (b.num * a.den):=by
 unfold cmpQ cmpI;simp only [Rat.lt_iff]
theorem cmpQ_le {a b:Rat}:cmpQ a b≤0 ↔ a≤b:=by unfold cmpQ;split <;> (try split) <;> grind
theorem cmpQ_ge {a b:Rat}:0≤cmpQ a b ↔ b≤a:=by unfold cmpQ;split <;> (try split) <;> grind
theorem cmpQ_eq {a b:Rat}:cmpQ a b=0 ↔ a=b:=by unfold cmpQ;split <;> (try split) <;> grind
theorem cmpQ_lt {a b:Rat}:cmpQ a b<0 ↔ a<b:=by unfold cmpQ;split <;> (try split) <;> grind
theorem cmpQ_gt {a b:Rat}:0<cmpQ a b ↔ b<a:=by unfold cmpQ;split <;> (try split) <;> grind
theorem cmp_whole {n d m e p q r s:Int} (hd:0<d) (he:0<e) (h1:n=d * p+r) (h2:m=e * q+s) (_hr0:0≤r) (hr1:r<d) (hs0:0≤s) (_hs1:s<e) :
  (p<q→n * e<m * d)∧(p=q→n * e - m * d=r * e - s * d):=by
 subst h1 h2;refine ⟨fun h => ?_,fun h => ?_⟩
 ·have h3:d * e * (p+1)≤d * e * q:=Int.mul_le_mul_of_nonneg_left (by omega) (Int.le_of_lt (Int.mul_pos hd he));have h4:r * e<d * e:=Int.mul_lt_mul_of_pos_right hr1 he;have h5:0≤s * d:=Int.mul_nonneg hs0 (Int.le_of_lt hd);have e1:(d * p+r) * e=d * e * p+r * e:=by grind
  have e2:(e * q+s) * d=d * e * q+s * d:=by grind
  have e3:d * e * (p+1)=d * e * p+d * e:=by grind
  omega
 ·subst h;grind
theorem cmp_round {n d m e:Int} (hd:0<d) (he:0<e) :
  (n / d≠m / e→cmpI (n * e) (m * d)=cmpI (n / d) (m / e)) ∧
  (n / d=m / e→n % d=0→m % e=0→cmpI (n * e) (m * d)=0) ∧
  (n / d=m / e→n % d=0→m % e≠0→cmpI (n * e) (m * d) = -1) ∧
  (n / d=m / e→n % d≠0→m % e=0→cmpI (n * e) (m * d)=1) ∧
  (n / d=m / e→n % d≠0→m % e≠0→0<n % d∧n % d<d∧0<m % e∧m % e<e∧cmpI (n * e) (m * d) = -cmpI (d * (m % e)) (e * (n % d))):=by
 have h1:n=d * (n / d)+n % d:=(Int.mul_ediv_add_emod n d).symm;have h2:m=e * (m / e)+m % e:=(Int.mul_ediv_add_emod m e).symm;have r0:=Int.emod_nonneg n (b:=d) (by omega);have r1:=Int.emod_lt_of_pos n hd;have s0:=Int.emod_nonneg m (b:=e) (by omega);have s1:=Int.emod_lt_of_pos m he;generalize n / d=p at *;generalize n % d=r at *;generalize m / e=q at *;generalize m % e=s at *;have k1:=cmp_whole hd he h1 h2 r0 r1 s0 s1;have k2:=cmp_whole he hd h2 h1 s0 s1 r0 r1;refine ⟨fun h => ?_,fun h hr hs => ?_,fun h hr hs => ?_,fun h hr hs => ?_,fun h hr hs=>⟨by omega,r1,by omega,s1,?_⟩⟩
 ·rcases Int.lt_or_gt_of_ne h with h3 | h3
  ·have:=k1.1 h3;unfold cmpI;rw [if_pos this,if_pos h3]
  ·have:=k2.1 h3;unfold cmpI;rw [if_neg (by omega),if_pos this,if_neg (by omega),if_pos h3]
 ·have:=k1.2 h;subst hr hs;unfold cmpI;rw [if_neg (by omega),if_neg (by omega)]
 ·have h3:=k1.2 h;subst hr;have h4:0<s * d:=Int.mul_pos (by omega) hd;unfold cmpI;rw [if_pos (by omega)]
 ·have h3:=k1.2 h;subst hs;have h4:0<r * e:=Int.mul_pos (by omega) he;unfold cmpI;rw [if_neg (by omega),if_pos (by omega)]
 ·have h3:=k1.2 h;have e1:d * s=s * d:=Int.mul_comm _ _;have e2:e * r=r * e:=Int.mul_comm _ _;rw [e1,e2];unfold cmpI;by_cases c1:n * e<m * d
  ·rw [if_pos c1,if_neg (by omega),if_pos (by omega)]
  ·by_cases c2:m * d<n * e
   ·rw [if_neg c1,if_pos c2,if_pos (by omega)];rfl
   ·rw [if_neg c1,if_neg c2,if_neg (by omega),if_neg (by omega)];rfl
end Go.Proofs.YtdikaoahgleffaaGreatDoor
namespace Go.Proofs.YtdikaoahgleffaaGreatDoor
open Go.Lib
def minQ (a b:Rat):Rat:=if b<a then b else a
def maxQ (a b:Rat):Rat:=if a<b then b else a
theorem minQ_left (a b:Rat):minQ a b≤a:=by unfold minQ;split <;> grind
theorem minQ_right (a b:Rat):minQ a b≤b:=by unfold minQ;split <;> grind
theorem maxQ_left (a b:Rat):a≤maxQ a b:=by unfold maxQ;split <;> grind
theorem maxQ_right (a b:Rat):b≤maxQ a b:=by unfold maxQ;split <;> grind
theorem minQ_or (a b:Rat):minQ a b=a∨minQ a b=b:=by unfold minQ;split <;> grind
theorem maxQ_or (a b:Rat):maxQ a b=a∨maxQ a b=b:=by unfold maxQ;split <;> grind
theorem le_minQ {a b c:Rat} (h1:c≤a) (h2:c≤b):c≤minQ a b:=by unfold minQ;split <;> assumption
theorem maxQ_le {a b c:Rat} (h1:a≤c) (h2:b≤c):maxQ a b≤c:=by unfold maxQ;split <;> assumption
def min4 (a b c d:Rat):Rat:=minQ (minQ (minQ a b) c) d
def max4 (a b c d:Rat):Rat:=maxQ (maxQ (maxQ a b) c) d
theorem min4_le (a b c d:Rat):min4 a b c d≤a∧min4 a b c d≤b∧min4 a b c d≤c∧min4 a b c d≤d:=by
 unfold min4;have h1:=minQ_left (minQ (minQ a b) c) d;have h2:=minQ_right (minQ (minQ a b) c) d;have h3:=minQ_left (minQ a b) c;have h4:=minQ_right (minQ a b) c;have h5:=minQ_left a b;have h6:=minQ_right a b;grind
theorem le_max4 (a b c d:Rat):a≤max4 a b c d∧b≤max4 a b c d∧c≤max4 a b c d∧d≤max4 a b c d:=by
 unfold max4;have h1:=maxQ_left (maxQ (maxQ a b) c) d;have h2:=maxQ_right (maxQ (maxQ a b) c) d;have h3:=maxQ_left (maxQ a b) c;have h4:=maxQ_right (maxQ a b) c;have h5:=maxQ_left a b;have h6:=maxQ_right a b;grind
theorem min4_or (a b c d:Rat):min4 a b c d=a∨min4 a b c d=b∨min4 a b c d=c∨min4 a b c d=d:=by
 unfold min4;have h1:=minQ_or (minQ (minQ a b) c) d;have h2:=minQ_or (minQ a b) c;have h3:=minQ_or a b;grind
theorem max4_or (a b c d:Rat):max4 a b c d=a∨max4 a b c d=b∨max4 a b c d=c∨max4 a b c d=d:=by
 unfold max4;have h1:=maxQ_or (maxQ (maxQ a b) c) d;have h2:=maxQ_or (maxQ a b) c;have h3:=maxQ_or a b;grind
theorem le_min4 {a b c d x:Rat} (h1:x≤a) (h2:x≤b) (h3:x≤c) (h4:x≤d):x≤min4 a b c d:=le_minQ (le_minQ (le_minQ h1 h2) h3) h4
theorem max4_le {a b c d x:Rat} (h1:a≤x) (h2:b≤x) (h3:c≤x) (h4:d≤x):max4 a b c d≤x:=maxQ_le (maxQ_le (maxQ_le h1 h2) h3) h4
theorem mul_low {l h r s x:Rat} (h1:l≤r) (h2:r≤h) (hl:x≤l * s) (hh:x≤h * s):x≤r * s:=by
 rcases Rat.le_total (a:=0) (b:=s) with hs | hs
 ·exact Rat.le_trans hl (Rat.mul_le_mul_of_nonneg_right h1 hs)
 ·have:=Rat.mul_le_mul_of_nonneg_right (a:=r) (b:=h) (c := -s) h2 (by grind);grind
theorem mul_high {l h r s x:Rat} (h1:l≤r) (h2:r≤h) (hl:l * s≤x) (hh:h * s≤x):r * s≤x:=by
 rcases Rat.le_total (a:=0) (b:=s) with hs | hs
 ·exact Rat.le_trans (Rat.mul_le_mul_of_nonneg_right h2 hs) hh
 ·have:=Rat.mul_le_mul_of_nonneg_right (a:=l) (b:=r) (c := -s) h1 (by grind);grind
theorem mul_low2 {l h m n r s x:Rat} (h1:l≤r) (h2:r≤h) (h3:m≤s) (h4:s≤n) (p1:x≤l * m) (p2:x≤l * n) (p3:x≤h * m) (p4:x≤h * n):x≤r * s:=by
 refine mul_low h1 h2 ?_ ?_
 ·rw [Rat.mul_comm l] at p1 p2;rw [Rat.mul_comm l];exact mul_low h3 h4 p1 p2
 ·rw [Rat.mul_comm h] at p3 p4;rw [Rat.mul_comm h];exact mul_low h3 h4 p3 p4
theorem mul_high2 {l h m n r s x:Rat} (h1:l≤r) (h2:r≤h) (h3:m≤s) (h4:s≤n) (p1:l * m≤x) (p2:l * n≤x) (p3:h * m≤x) (p4:h * n≤x):r * s≤x:=by
 refine mul_high h1 h2 ?_ ?_
 ·rw [Rat.mul_comm l] at p1 p2;rw [Rat.mul_comm l];exact mul_high h3 h4 p1 p2
 ·rw [Rat.mul_comm h] at p3 p4;rw [Rat.mul_comm h];exact mul_high h3 h4 p3 p4
theorem inv_between {m n s:Rat} (h0:0<m∨n<0) (h3:m≤s) (h4:s≤n):n⁻¹≤s⁻¹∧s⁻¹≤m⁻¹:=by
 have key:∀ x y:Rat,0<x→x≤y→y⁻¹≤x⁻¹:=by
  intro x y hx hxy;have hx':0<x⁻¹:=Rat.inv_pos.2 hx;have hy':0<y⁻¹:=Rat.inv_pos.2 (by grind);have h:=Rat.mul_le_mul_of_nonneg_left (a:=x) (b:=y) (c:=x⁻¹ * y⁻¹) hxy (Rat.le_of_lt (Rat.mul_pos hx' hy'));have e1:x⁻¹ * y⁻¹ * x=y⁻¹:=by grind
  have e2:x⁻¹ * y⁻¹ * y=x⁻¹:=by grind
  rwa [e1,e2] at h
 rcases h0 with h0 | h0
 ·exact ⟨key s n (by grind) h4,key m s h0 h3⟩
 ·have k1:=key (-n) (-s) (by grind) (by grind);have k2:=key (-s) (-m) (by grind) (by grind);have e:∀ x:Rat,(-x)⁻¹ = -x⁻¹:=fun x=>by grind
  rw [e,e] at k1 k2;constructor <;> grind
theorem div_low2 {l h m n r s x:Rat} (h0:0<m∨n<0) (h1:l≤r) (h2:r≤h) (h3:m≤s) (h4:s≤n) (p1:x≤l / m) (p2:x≤l / n) (p3:x≤h / m) (p4:x≤h / n):x≤r / s:=by
 obtain ⟨i1,i2⟩:=inv_between h0 h3 h4;rw [Rat.div_def] at *;exact mul_low2 h1 h2 i1 i2 p2 p1 p4 p3
theorem div_high2 {l h m n r s x:Rat} (h0:0<m∨n<0) (h1:l≤r) (h2:r≤h) (h3:m≤s) (h4:s≤n) (p1:l / m≤x) (p2:l / n≤x) (p3:h / m≤x) (p4:h / n≤x):r / s≤x:=by
 obtain ⟨i1,i2⟩:=inv_between h0 h3 h4;rw [Rat.div_def] at *;exact mul_high2 h1 h2 i1 i2 p2 p1 p4 p3
end Go.Proofs.YtdikaoahgleffaaGreatDoor
namespace Go.Proofs.YtdikaoahgleffaaGreatDoor
open Go.Lib
theorem num_eq_mul (q:Rat):(q.num:Rat)=q * (q.den:Int):=by
 have h:=Rat.num_divInt_den q;rw [Rat.divInt_eq_div] at h;have hd:0<((q.den:Int):Rat):=Rat.intCast_pos.2 (den_pos q);have h2:=Rat.div_mul_cancel (a:=(q.num:Rat)) (b:=((q.den:Int):Rat)) (by grind);rw [h] at h2;exact h2.symm
theorem whole_parts (r:Rat) (n T:Int) (hn:(n:Rat)=r.num * T):(n / r.den:Int)≤r * T∧r * T<((n / r.den:Int):Rat)+1∧(n % r.den=0 ↔ ((n / r.den:Int):Rat)=r * T):=by
 have hd:=den_pos r;have hdq:0<((r.den:Int):Rat):=Rat.intCast_pos.2 hd;have h1:n=r.den * (n / r.den)+n % r.den:=(Int.mul_ediv_add_emod n r.den).symm;have h2:=Int.emod_nonneg n (b:=r.den) (by omega);have h3:=Int.emod_lt_of_pos n hd;generalize n / (r.den:Int)=q at *;generalize n % (r.den:Int)=s at *;have hs0:(0:Rat)≤(s:Rat):=Rat.intCast_nonneg.2 h2;have hs1:(s:Rat)<((r.den:Int):Rat):=Rat.intCast_lt_intCast.2 h3;have e1:(n:Rat)=((r.den:Int):Rat) * q+s:=by rw [h1,Rat.intCast_add,Rat.intCast_mul]
 have e2:r * T * ((r.den:Int):Rat)=((r.den:Int):Rat) * q+s:=by rw [← e1,hn,num_eq_mul];grind
 have hz:s=0 ↔ (s:Rat)=0:=by rw [← Rat.intCast_zero,Rat.intCast_inj]
 refine ⟨?_,?_,?_⟩
 ·have:(q:Rat) * ((r.den:Int):Rat)≤r * T * ((r.den:Int):Rat):=by grind
  exact Rat.le_of_mul_le_mul_right this hdq
 ·have:r * T * ((r.den:Int):Rat)<((q:Rat)+1) * ((r.den:Int):Rat):=by grind
  exact Rat.lt_of_mul_lt_mul_right this (Rat.le_of_lt hdq)
 ·rw [hz];constructor
  ·intro h;have h4:(q:Rat) * ((r.den:Int):Rat)=r * T * ((r.den:Int):Rat):=by grind
   have:=congrArg (· / ((r.den:Int):Rat)) h4;simpa [Rat.mul_div_cancel (show ((r.den:Int):Rat)≠0 by grind)] using this
  ·intro h;grind
theorem divInt_mul {n T:Int} (hT:0<T):Rat.divInt n T * T=n:=by
 have hq:0<(T:Rat):=Rat.intCast_pos.2 hT;rw [Rat.divInt_eq_div,Rat.div_mul_cancel (by grind)]
theorem divInt_le {n T:Int} {r:Rat} (hT:0<T):Rat.divInt n T≤r ↔ (n:Rat)≤r * T:=by
 have hq:0<(T:Rat):=Rat.intCast_pos.2 hT;rw [← divInt_mul (n:=n) hT];exact ⟨fun h=>Rat.mul_le_mul_of_nonneg_right h (Rat.le_of_lt hq),fun h=>Rat.le_of_mul_le_mul_right h hq⟩
theorem le_divInt {n T:Int} {r:Rat} (hT:0<T):r≤Rat.divInt n T ↔ r * T≤n:=by
 have hq:0<(T:Rat):=Rat.intCast_pos.2 hT;rw [← divInt_mul (n:=n) hT];exact ⟨fun h=>Rat.mul_le_mul_of_nonneg_right h (Rat.le_of_lt hq),fun h=>Rat.le_of_mul_le_mul_right h hq⟩
theorem divInt_mono {n m T:Int} (hT:0<T) (h:n≤m):Rat.divInt n T≤Rat.divInt m T:=by
 rw [divInt_le hT,divInt_mul hT];exact Rat.intCast_le_intCast.2 h
theorem divInt_succ {n T:Int} (hT:0<T):Rat.divInt (n+1) T=Rat.divInt n T+Rat.divInt 1 T:=by
 have hq:0<(T:Rat):=Rat.intCast_pos.2 hT;rw [Rat.divInt_eq_div,Rat.divInt_eq_div,Rat.divInt_eq_div,Rat.intCast_add];grind
def downI (r:Rat) (T:Int):Int:=r.num * T / r.den
def upI (r:Rat) (T:Int):Int:=downI r T+if r.num * T % r.den=0 then 0 else 1
def dn (r:Rat) (T:Int):Rat:=Rat.divInt (downI r T) T
def uq (r:Rat) (T:Int):Rat:=Rat.divInt (upI r T) T
theorem downI_spec (r:Rat) (T:Int):(downI r T:Rat)≤r * T∧r * T<(downI r T:Rat)+1 :=
 have h:=whole_parts r (r.num * T) T (Rat.intCast_mul _ _)
 ⟨h.1,h.2.1⟩
theorem upI_spec (r:Rat) (T:Int):r * T≤(upI r T:Rat)∧(upI r T:Rat)<r * T+1:=by
 obtain ⟨h1,h2,h3⟩:=whole_parts r (r.num * T) T (Rat.intCast_mul _ _);unfold upI;split
 ·rename_i h;have:=h3.1 h;rw [Int.add_zero];unfold downI;constructor <;> grind
 ·rename_i h;have h4:¬ ((r.num * T / r.den:Int):Rat)=r * T:=fun e=>h (h3.2 e)
  rw [Rat.intCast_add,Rat.intCast_one];unfold downI;constructor <;> grind
theorem int_of_rat {a b:Int} (h1:(a:Rat)<(b:Rat)+1):a≤b:=by
 have:(a:Rat)<((b+1:Int):Rat):=by rw [Rat.intCast_add,Rat.intCast_one];exact h1
 have:=Rat.intCast_lt_intCast.1 this;omega
theorem downI_mono {r s:Rat} {T:Int} (hT:0<T) (h:r≤s):downI r T≤downI s T:=by
 have hq:0<(T:Rat):=Rat.intCast_pos.2 hT;have h1:=(downI_spec r T).1;have h2:=(downI_spec s T).2;have h3:=Rat.mul_le_mul_of_nonneg_right h (Rat.le_of_lt hq);exact int_of_rat (by grind)
theorem upI_mono {r s:Rat} {T:Int} (hT:0<T) (h:r≤s):upI r T≤upI s T:=by
 have hq:0<(T:Rat):=Rat.intCast_pos.2 hT;have h1:=(upI_spec r T).2;have h2:=(upI_spec s T).1;have h3:=Rat.mul_le_mul_of_nonneg_right h (Rat.le_of_lt hq);exact int_of_rat (by grind)
theorem dn_le (r:Rat) {T:Int} (hT:0<T):dn r T≤r:=(divInt_le hT).2 (downI_spec r T).1
theorem le_uq (r:Rat) {T:Int} (hT:0<T):r≤uq r T:=(le_divInt hT).2 (upI_spec r T).1
theorem dn_mono {r s:Rat} {T:Int} (hT:0<T) (h:r≤s):dn r T≤dn s T:=divInt_mono hT (downI_mono hT h)
theorem uq_mono {r s:Rat} {T:Int} (hT:0<T) (h:r≤s):uq r T≤uq s T:=divInt_mono hT (upI_mono hT h)
theorem downI_grid (k:Int) {T:Int} (hT:0<T):downI (Rat.divInt k T) T=k:=by
 have h:=downI_spec (Rat.divInt k T) T;rw [divInt_mul hT] at h;have h1:=Rat.intCast_le_intCast.1 h.1;have h2:=int_of_rat h.2;omega
/-! ### Roots -/
def IsRootI (q m:Int):Prop:=0≤m∧m * m≤q∧q<(m+1) * (m+1)
def rootQ (r:Rat) (T:Int):Int:=r.num * T * T / r.den
def ExactR (r:Rat) (T m:Int):Prop:=r.num * T * T % r.den=0∧m * m=rootQ r T
theorem rootQ_spec (r:Rat) (T:Int):(rootQ r T:Rat)≤r * T * T∧r * T * T<(rootQ r T:Rat)+1∧(r.num * T * T % r.den=0 ↔ (rootQ r T:Rat)=r * T * T):=by
 have h:=whole_parts r (r.num * T * T) (T * T) (by rw [Rat.intCast_mul,Rat.intCast_mul,Rat.intCast_mul];grind);rw [Rat.intCast_mul] at h;have e:r * ((T:Rat) * T)=r * T * T:=by grind
 rw [e] at h;exact h
theorem divInt_sq {m T:Int} (hT:0<T):Rat.divInt m T * Rat.divInt m T * (T * T)=m * m:=by
 have h:=divInt_mul (n:=m) hT;grind
theorem sq_le {m T:Int} {r:Rat} (hT:0<T):Rat.divInt m T * Rat.divInt m T≤r ↔ (m * m:Rat)≤r * T * T:=by
 have hq:0<(T:Rat):=Rat.intCast_pos.2 hT;have hqq:0<(T:Rat) * T:=Rat.mul_pos hq hq;rw [← divInt_sq (m:=m) hT];have e:r * T * T=r * ((T:Rat) * T):=by grind
 rw [e];exact ⟨fun h=>Rat.mul_le_mul_of_nonneg_right h (Rat.le_of_lt hqq),fun h=>Rat.le_of_mul_le_mul_right h hqq⟩
theorem le_sq {m T:Int} {r:Rat} (hT:0<T):r≤Rat.divInt m T * Rat.divInt m T ↔ r * T * T≤(m * m:Rat):=by
 have hq:0<(T:Rat):=Rat.intCast_pos.2 hT;have hqq:0<(T:Rat) * T:=Rat.mul_pos hq hq;rw [← divInt_sq (m:=m) hT];have e:r * T * T=r * ((T:Rat) * T):=by grind
 rw [e];exact ⟨fun h=>Rat.mul_le_mul_of_nonneg_right h (Rat.le_of_lt hqq),fun h=>Rat.le_of_mul_le_mul_right h hqq⟩
theorem root_low {r:Rat} {T m:Int} (hT:0<T) (h:IsRootI (rootQ r T) m):Rat.divInt m T * Rat.divInt m T≤r∧r<Rat.divInt (m+1) T * Rat.divInt (m+1) T:=by
 obtain ⟨h0,h1,h2⟩:=h;obtain ⟨s1,s2,_⟩:=rootQ_spec r T;have g1:(m:Rat) * m≤rootQ r T:=by rw [← Rat.intCast_mul];exact Rat.intCast_le_intCast.2 h1
 have g2:(rootQ r T:Rat)+1≤((m+1:Int):Rat) * ((m+1:Int):Rat):=by
  rw [← Rat.intCast_mul,← Rat.intCast_one,← Rat.intCast_add];exact Rat.intCast_le_intCast.2 h2
 refine ⟨(sq_le hT).2 (by grind),?_⟩;have:¬ Rat.divInt (m+1) T * Rat.divInt (m+1) T≤r:=fun h=>by
  have:=(sq_le hT).1 h;grind
 grind
theorem root_exact {r:Rat} {T m:Int} (hT:0<T) (h:ExactR r T m):r≤Rat.divInt m T * Rat.divInt m T:=by
 obtain ⟨h1,h2⟩:=h;obtain ⟨_,_,s3⟩:=rootQ_spec r T;have g1:=s3.1 h1;have g2:(m:Rat) * m=rootQ r T:=by rw [← Rat.intCast_mul,h2]
 exact (le_sq hT).2 (by grind)
theorem root_inexact {r:Rat} {T m:Int} (hT:0<T) (h:IsRootI (rootQ r T) m) (hx:¬ ExactR r T m):Rat.divInt m T * Rat.divInt m T<r:=by
 obtain ⟨h0,h1,h2⟩:=h;obtain ⟨s1,s2,s3⟩:=rootQ_spec r T;have g1:(m:Rat) * m≤rootQ r T:=by rw [← Rat.intCast_mul];exact Rat.intCast_le_intCast.2 h1
 have:¬ r≤Rat.divInt m T * Rat.divInt m T:=fun h=>by
  have h4:=(le_sq hT).1 h;have h5:(rootQ r T:Rat)=r * T * T:=by grind
  have h6:((m * m:Int):Rat)=rootQ r T:=by rw [Rat.intCast_mul];grind
  exact hx ⟨s3.2 h5,Rat.intCast_inj.1 h6⟩
 grind
end Go.Proofs.YtdikaoahgleffaaGreatDoor
namespace Go.Proofs.YtdikaoahgleffaaGreatDoor
open Go.Lib
structure Iv where
 lo:Rat
 hi:Rat
def Iv.Ok (a:Iv):Prop:=a.lo≤a.hi
def Iv.Has (a:Iv) (r:Rat):Prop:=a.lo≤r∧r≤a.hi
def Iv.Sub (a b:Iv):Prop:=b.lo≤a.lo∧a.hi≤b.hi
def Iv.Free (b:Iv):Prop:=0<b.lo∨b.hi<0
def IDig (k:Nat) (a:Iv):Prop:=QDig k a.lo∧QDig k a.hi
theorem IDig.mono {j k:Nat} {a:Iv} (h:IDig j a) (hjk:j≤k):IDig k a:=⟨h.1.mono hjk,h.2.mono hjk⟩
theorem Iv.Ok.lo {a:Iv} (h:a.Ok):a.Has a.lo:=⟨Rat.le_refl,h⟩
theorem Iv.Ok.hi {a:Iv} (h:a.Ok):a.Has a.hi:=⟨h,Rat.le_refl⟩
theorem Iv.Has.ok {a:Iv} {r:Rat} (h:a.Has r):a.Ok:=Rat.le_trans h.1 h.2
theorem Iv.Has.sub {a b:Iv} {r:Rat} (h:a.Has r) (hs:a.Sub b):b.Has r:=⟨Rat.le_trans hs.1 h.1,Rat.le_trans h.2 hs.2⟩
theorem Iv.sub_has {a b:Iv} (h1:b.Has a.lo) (h2:b.Has a.hi):a.Sub b:=⟨h1.1,h2.2⟩
theorem Iv.free_iff {b:Iv}:b.Free ↔ ¬ b.Has 0:=by unfold Iv.Free Iv.Has;constructor <;> grind
theorem Iv.Free.sub {a b:Iv} (h:b.Free) (hs:a.Sub b):a.Free:=by
 unfold Iv.Free Iv.Sub at *;grind
theorem Iv.Free.ne {b:Iv} {s:Rat} (h:b.Free) (hs:b.Has s):s≠0:=fun e=>Iv.free_iff.1 h (e ▸ hs)
def addI (a b:Iv):Iv:=⟨a.lo+b.lo,a.hi+b.hi⟩
def subI (a b:Iv):Iv:=⟨a.lo - b.hi,a.hi - b.lo⟩
def mulI (a b:Iv):Iv:=⟨min4 (a.lo * b.lo) (a.lo * b.hi) (a.hi * b.lo) (a.hi * b.hi),max4 (a.lo * b.lo) (a.lo * b.hi) (a.hi * b.lo) (a.hi * b.hi)⟩
def divI (a b:Iv):Iv:=⟨min4 (a.lo / b.lo) (a.lo / b.hi) (a.hi / b.lo) (a.hi / b.hi),max4 (a.lo / b.lo) (a.lo / b.hi) (a.hi / b.lo) (a.hi / b.hi)⟩
def hullI (a b:Iv):Iv:=⟨min4 a.lo a.hi b.lo b.hi,max4 a.lo a.hi b.lo b.hi⟩
def meetI (a b:Iv):Iv:=⟨maxQ a.lo b.lo,minQ a.hi b.hi⟩
theorem addI_has {a b:Iv} {r s:Rat} (h1:a.Has r) (h2:b.Has s):(addI a b).Has (r+s):=by
 unfold Iv.Has addI at *;constructor <;> grind
theorem subI_has {a b:Iv} {r s:Rat} (h1:a.Has r) (h2:b.Has s):(subI a b).Has (r - s):=by
 unfold Iv.Has subI at *;constructor <;> grind
theorem mulI_has {a b:Iv} {r s:Rat} (h1:a.Has r) (h2:b.Has s):(mulI a b).Has (r * s):=by
 obtain ⟨l1,l2,l3,l4⟩:=min4_le (a.lo * b.lo) (a.lo * b.hi) (a.hi * b.lo) (a.hi * b.hi);obtain ⟨m1,m2,m3,m4⟩:=le_max4 (a.lo * b.lo) (a.lo * b.hi) (a.hi * b.lo) (a.hi * b.hi);exact ⟨mul_low2 h1.1 h1.2 h2.1 h2.2 l1 l2 l3 l4,mul_high2 h1.1 h1.2 h2.1 h2.2 m1 m2 m3 m4⟩
theorem divI_has {a b:Iv} {r s:Rat} (h0:b.Free) (h1:a.Has r) (h2:b.Has s):(divI a b).Has (r / s):=by
 obtain ⟨l1,l2,l3,l4⟩:=min4_le (a.lo / b.lo) (a.lo / b.hi) (a.hi / b.lo) (a.hi / b.hi);obtain ⟨m1,m2,m3,m4⟩:=le_max4 (a.lo / b.lo) (a.lo / b.hi) (a.hi / b.lo) (a.hi / b.hi);exact ⟨div_low2 h0 h1.1 h1.2 h2.1 h2.2 l1 l2 l3 l4,div_high2 h0 h1.1 h1.2 h2.1 h2.2 m1 m2 m3 m4⟩
theorem hullI_has {a b:Iv} {r:Rat} (h:a.Has r∨b.Has r):(hullI a b).Has r:=by
 obtain ⟨l1,l2,l3,l4⟩:=min4_le a.lo a.hi b.lo b.hi;obtain ⟨m1,m2,m3,m4⟩:=le_max4 a.lo a.hi b.lo b.hi;unfold Iv.Has hullI at *;rcases h with h | h <;> constructor <;> grind
theorem meetI_has {a b:Iv} {r:Rat}:(meetI a b).Has r ↔ a.Has r∧b.Has r:=by
 unfold Iv.Has meetI minQ maxQ;constructor
 ·intro h;constructor <;> constructor <;> (split at h <;> split at h <;> grind)
 ·intro h;constructor <;> split <;> grind
theorem addI_ok {a b:Iv} (ha:a.Ok) (hb:b.Ok):(addI a b).Ok:=(addI_has ha.lo hb.lo).ok
theorem subI_ok {a b:Iv} (ha:a.Ok) (hb:b.Ok):(subI a b).Ok:=(subI_has ha.lo hb.lo).ok
theorem mulI_ok {a b:Iv} (ha:a.Ok) (hb:b.Ok):(mulI a b).Ok:=(mulI_has ha.lo hb.lo).ok
theorem divI_ok {a b:Iv} (h0:b.Free) (ha:a.Ok) (hb:b.Ok):(divI a b).Ok:=(divI_has h0 ha.lo hb.lo).ok
theorem hullI_ok {a b:Iv} (ha:a.Ok):(hullI a b).Ok:=(hullI_has (.inl ha.lo)).ok
theorem addI_sub {a b c d:Iv} (h1:a.Sub c) (h2:b.Sub d):(addI a b).Sub (addI c d):=by
 unfold Iv.Sub addI at *;constructor <;> grind
theorem subI_sub {a b c d:Iv} (h1:a.Sub c) (h2:b.Sub d):(subI a b).Sub (subI c d):=by
 unfold Iv.Sub subI at *;constructor <;> grind
theorem mulI_sub {a b c d:Iv} (ha:a.Ok) (hb:b.Ok) (h1:a.Sub c) (h2:b.Sub d):(mulI a b).Sub (mulI c d):=by
 have k1:=mulI_has (ha.lo.sub h1) (hb.lo.sub h2);have k2:=mulI_has (ha.lo.sub h1) (hb.hi.sub h2);have k3:=mulI_has (ha.hi.sub h1) (hb.lo.sub h2);have k4:=mulI_has (ha.hi.sub h1) (hb.hi.sub h2);exact ⟨le_min4 k1.1 k2.1 k3.1 k4.1,max4_le k1.2 k2.2 k3.2 k4.2⟩
theorem divI_sub {a b c d:Iv} (h0:d.Free) (ha:a.Ok) (hb:b.Ok) (h1:a.Sub c) (h2:b.Sub d):(divI a b).Sub (divI c d):=by
 have k1:=divI_has h0 (ha.lo.sub h1) (hb.lo.sub h2);have k2:=divI_has h0 (ha.lo.sub h1) (hb.hi.sub h2);have k3:=divI_has h0 (ha.hi.sub h1) (hb.lo.sub h2);have k4:=divI_has h0 (ha.hi.sub h1) (hb.hi.sub h2);exact ⟨le_min4 k1.1 k2.1 k3.1 k4.1,max4_le k1.2 k2.2 k3.2 k4.2⟩
theorem hullI_sub {a b c d:Iv} (ha:a.Ok) (hb:b.Ok) (h1:a.Sub c) (h2:b.Sub d):(hullI a b).Sub (hullI c d):=by
 have k1:=hullI_has (b:=d) (.inl (ha.lo.sub h1));have k2:=hullI_has (b:=d) (.inl (ha.hi.sub h1));have k3:=hullI_has (a:=c) (.inr (hb.lo.sub h2));have k4:=hullI_has (a:=c) (.inr (hb.hi.sub h2));exact ⟨le_min4 k1.1 k2.1 k3.1 k4.1,max4_le k1.2 k2.2 k3.2 k4.2⟩
theorem meetI_sub {a b c d:Iv} (h:(meetI a b).Ok) (h1:a.Sub c) (h2:b.Sub d):(meetI a b).Sub (meetI c d):=by
 have k1:=meetI_has.1 h.lo;have k2:=meetI_has.1 h.hi;exact Iv.sub_has (meetI_has.2 ⟨k1.1.sub h1,k1.2.sub h2⟩) (meetI_has.2 ⟨k2.1.sub h1,k2.2.sub h2⟩)
def roundI (a:Iv) (T:Int):Iv:=⟨dn a.lo T,uq a.hi T⟩
theorem roundI_sub {a c:Iv} {T:Int} (hT:0<T) (h1:a.Sub c):(roundI a T).Sub (roundI c T):=⟨dn_mono hT h1.1,uq_mono hT h1.2⟩
theorem sub_roundI {a:Iv} {T:Int} (hT:0<T):a.Sub (roundI a T):=⟨dn_le _ hT,le_uq _ hT⟩
end Go.Proofs.YtdikaoahgleffaaGreatDoor
namespace Go.Proofs.YtdikaoahgleffaaGreatDoor
open Go.Lib
theorem le_of_sq {a y:Rat} (hy:0≤y) (h:a * a≤y * y):a≤y:=by
 rcases Rat.le_total (a:=a) (b:=y) with h1 | h1
 ·exact h1
 ·have h2:=Rat.mul_le_mul_of_nonneg_left (a:=y) (b:=a) (c:=y) h1 hy;have h3:=Rat.mul_le_mul_of_nonneg_right (a:=y) (b:=a) (c:=a) h1 (by grind);rcases Classical.em (a=y) with e | e
  ·grind
  ·have h4:0<a - y:=by grind
   have h5:0<a:=by grind
   have h6:=Rat.mul_pos h4 h5;grind
theorem lt_of_sq {a y:Rat} (hy:0≤y) (h:a * a<y * y):a<y:=by
 have h1:=le_of_sq hy (Rat.le_of_lt h);rcases Classical.em (a=y) with e | e
 ·grind
 ·grind
theorem sq_mono {a y:Rat} (ha:0≤a) (h:a≤y):a * a≤y * y:=by
 have h2:=Rat.mul_le_mul_of_nonneg_left (a:=a) (b:=y) (c:=a) h ha;have h3:=Rat.mul_le_mul_of_nonneg_right (a:=a) (b:=y) (c:=y) h (by grind);grind
def RootLo (r:Rat) (T:Int) (x:Rat):Prop:=∃ m,IsRootI (rootQ r T) m∧x=Rat.divInt m T
def RootHi (r:Rat) (T:Int) (y:Rat):Prop:=∃ m,IsRootI (rootQ r T) m∧((ExactR r T m∧y=Rat.divInt m T)∨(¬ ExactR r T m∧y=Rat.divInt (m+1) T))
theorem divInt_nonneg' {m T:Int} (hT:0<T) (hm:0≤m):0≤Rat.divInt m T:=by
 rw [le_divInt hT];have:=Rat.intCast_nonneg.2 hm;grind
theorem unit_pos {T:Int} (hT:0<T):0<Rat.divInt 1 T:=by
 have:¬ Rat.divInt 1 T≤0:=by
  rw [divInt_le hT,Rat.intCast_one];grind
 grind
theorem RootLo.spec {r x:Rat} {T:Int} (hT:0<T) (h:RootLo r T x):0≤x∧x * x≤r∧r<(x+Rat.divInt 1 T) * (x+Rat.divInt 1 T):=by
 obtain ⟨m,hm,rfl⟩:=h;have h1:=root_low hT hm;rw [divInt_succ hT] at h1;exact ⟨divInt_nonneg' hT hm.1,h1⟩
theorem RootHi.spec {r y:Rat} {T:Int} (hT:0<T) (h:RootHi r T y):0≤y∧r≤y * y∧(y - Rat.divInt 1 T<0∨(y - Rat.divInt 1 T) * (y - Rat.divInt 1 T)<r):=by
 obtain ⟨m,hm,h⟩:=h;have h1:=root_low hT hm;have h0:=divInt_nonneg' hT hm.1;have hu:=unit_pos hT;rcases h with ⟨he,rfl⟩ | ⟨he,rfl⟩
 ·have h2:=root_exact hT he;refine ⟨h0,h2,?_⟩;generalize Rat.divInt m T=y at *;generalize Rat.divInt 1 T=u at *;rcases Classical.em (y - u<0) with h3 | h3
  ·exact .inl h3
  ·refine .inr ?_;have h4:0≤y - u:=by grind
   have h5:=sq_mono h4 (show y - u≤y by grind);have h6:(y - u) * (y - u)≠y * y:=by
    intro e;have:=le_of_sq (a:=y) h4 (by grind);grind
   grind
 ·have h2:=root_inexact hT hm he;rw [divInt_succ hT] at h1 ⊢;refine ⟨by grind,Rat.le_of_lt h1.2,.inr ?_⟩;have e:Rat.divInt m T+Rat.divInt 1 T - Rat.divInt 1 T=Rat.divInt m T:=by grind
  rw [e];exact h2
theorem divInt_lt {n m T:Int} (hT:0<T) (h:Rat.divInt n T<Rat.divInt m T):n<m:=by
 rcases Int.lt_or_le n m with h1 | h1
 ·exact h1
 ·have:=divInt_mono hT h1;grind
theorem RootLo.mono {r s x y:Rat} {T:Int} (hT:0<T) (h:RootLo r T x) (k:RootLo s T y) (hrs:r≤s):x≤y:=by
 obtain ⟨a1,a2,a3⟩:=h.spec hT;obtain ⟨b1,b2,b3⟩:=k.spec hT;obtain ⟨m,hm,rfl⟩:=h;obtain ⟨n,hn,rfl⟩:=k;rw [← divInt_succ hT] at b3;have h1:Rat.divInt m T<Rat.divInt (n+1) T:=lt_of_sq (divInt_nonneg' hT (by have:=hn.1;omega)) (by grind);exact divInt_mono hT (by have:=divInt_lt hT h1;omega)
theorem RootHi.grid {r y:Rat} {T:Int} (h:RootHi r T y):∃ k:Int,y=Rat.divInt k T:=by
 obtain ⟨m,_,⟨_,rfl⟩ | ⟨_,rfl⟩⟩:=h
 ·exact ⟨m,rfl⟩
 ·exact ⟨m+1,rfl⟩
theorem RootHi.mono {r s x y:Rat} {T:Int} (hT:0<T) (h:RootHi r T x) (k:RootHi s T y) (hrs:r≤s):x≤y:=by
 obtain ⟨a1,a2,a3⟩:=h.spec hT;obtain ⟨b1,b2,b3⟩:=k.spec hT;obtain ⟨m,rfl⟩:=h.grid;obtain ⟨n,rfl⟩:=k.grid;have e:Rat.divInt m T=Rat.divInt (m - 1) T+Rat.divInt 1 T:=by rw [← divInt_succ hT,Int.sub_add_cancel]
 have e2:Rat.divInt m T - Rat.divInt 1 T=Rat.divInt (m - 1) T:=by grind
 rw [e2] at a3;have h1:Rat.divInt (m - 1) T<Rat.divInt n T:=by
  rcases a3 with h3 | h3
  ·grind
  ·exact lt_of_sq b1 (by grind)
 exact divInt_mono hT (by have:=divInt_lt hT h1;omega)
end Go.Proofs.YtdikaoahgleffaaGreatDoor
namespace Go.Proofs.YtdikaoahgleffaaGreatDoor
open Go.Lib
theorem QDig.add {j k:Nat} {a b:Rat} (ha:QDig j a) (hb:QDig k b):QDig (j+k+1) (a+b):=by
 rw [← add_parts];refine reduced_dig (Int.mul_pos (den_pos a) (den_pos b)) ?_ ((ha.2.mul hb.2).mono (by omega));exact (ha.1.mul hb.2).add (by rw [Nat.add_comm];exact hb.1.mul ha.2)
theorem QDig.sub {j k:Nat} {a b:Rat} (ha:QDig j a) (hb:QDig k b):QDig (j+k+1) (a - b):=by
 rw [← sub_parts];refine reduced_dig (Int.mul_pos (den_pos a) (den_pos b)) ?_ ((ha.2.mul hb.2).mono (by omega));exact (ha.1.mul hb.2).sub (by rw [Nat.add_comm];exact hb.1.mul ha.2)
theorem QDig.mul {j k:Nat} {a b:Rat} (ha:QDig j a) (hb:QDig k b):QDig (j+k) (a * b):=by
 rw [← mul_parts];exact reduced_dig (Int.mul_pos (den_pos a) (den_pos b)) (ha.1.mul hb.1) (ha.2.mul hb.2)
theorem QDig.div {j k:Nat} {a b:Rat} (ha:QDig j a) (hb:QDig k b) (hb0:b≠0):QDig (j+k) (a / b):=by
 rw [← div_parts];have hn:b.num≠0:=fun e=>hb0 (Rat.num_eq_zero.1 e)
 rcases Int.lt_or_gt_of_ne hn with h | h
 ·rw [← divInt_neg];refine reduced_dig ?_ ((ha.1.mul hb.2).neg) ((ha.2.mul hb.1).neg);have:=Int.mul_neg_of_pos_of_neg (den_pos a) h;omega
 ·exact reduced_dig (Int.mul_pos (den_pos a) h) (ha.1.mul hb.2) (ha.2.mul hb.1)
theorem QDig.ofInt {k:Nat} {n d:Int} (hd:0<d) (hn:Dig k n) (hk:Dig k d):QDig k (Rat.divInt n d):=reduced_dig hd hn hk
theorem min4_dig {k:Nat} {a b c d:Rat} (ha:QDig k a) (hb:QDig k b) (hc:QDig k c) (hd:QDig k d):QDig k (min4 a b c d):=by
 rcases min4_or a b c d with e | e | e | e <;> rw [e] <;> assumption
theorem max4_dig {k:Nat} {a b c d:Rat} (ha:QDig k a) (hb:QDig k b) (hc:QDig k c) (hd:QDig k d):QDig k (max4 a b c d):=by
 rcases max4_or a b c d with e | e | e | e <;> rw [e] <;> assumption
theorem minQ_dig {k:Nat} {a b:Rat} (ha:QDig k a) (hb:QDig k b):QDig k (minQ a b):=by
 rcases minQ_or a b with e | e <;> rw [e] <;> assumption
theorem maxQ_dig {k:Nat} {a b:Rat} (ha:QDig k a) (hb:QDig k b):QDig k (maxQ a b):=by
 rcases maxQ_or a b with e | e <;> rw [e] <;> assumption
theorem addI_dig {j k:Nat} {a b:Iv} (ha:IDig j a) (hb:IDig k b):IDig (j+k+1) (addI a b):=⟨ha.1.add hb.1,ha.2.add hb.2⟩
theorem subI_dig {j k:Nat} {a b:Iv} (ha:IDig j a) (hb:IDig k b):IDig (j+k+1) (subI a b):=⟨ha.1.sub hb.2,ha.2.sub hb.1⟩
theorem mulI_dig {j k:Nat} {a b:Iv} (ha:IDig j a) (hb:IDig k b):IDig (j+k) (mulI a b) :=
 ⟨min4_dig (ha.1.mul hb.1) (ha.1.mul hb.2) (ha.2.mul hb.1) (ha.2.mul hb.2),max4_dig (ha.1.mul hb.1) (ha.1.mul hb.2) (ha.2.mul hb.1) (ha.2.mul hb.2)⟩
theorem Iv.Free.lo_ne {b:Iv} (h:b.Free) (hb:b.Ok):b.lo≠0:=h.ne hb.lo
theorem Iv.Free.hi_ne {b:Iv} (h:b.Free) (hb:b.Ok):b.hi≠0:=h.ne hb.hi
theorem divI_dig {j k:Nat} {a b:Iv} (ha:IDig j a) (hb:IDig k b) (h0:b.Free) (ho:b.Ok):IDig (j+k) (divI a b) :=
 ⟨min4_dig (ha.1.div hb.1 (h0.lo_ne ho)) (ha.1.div hb.2 (h0.hi_ne ho)) (ha.2.div hb.1 (h0.lo_ne ho)) (ha.2.div hb.2 (h0.hi_ne ho)),
  max4_dig (ha.1.div hb.1 (h0.lo_ne ho)) (ha.1.div hb.2 (h0.hi_ne ho)) (ha.2.div hb.1 (h0.lo_ne ho)) (ha.2.div hb.2 (h0.hi_ne ho))⟩
theorem hullI_dig {k:Nat} {a b:Iv} (ha:IDig k a) (hb:IDig k b):IDig k (hullI a b):=⟨min4_dig ha.1 ha.2 hb.1 hb.2,max4_dig ha.1 ha.2 hb.1 hb.2⟩
theorem meetI_dig {k:Nat} {a b:Iv} (ha:IDig k a) (hb:IDig k b):IDig k (meetI a b):=⟨maxQ_dig ha.1 hb.1,minQ_dig ha.2 hb.2⟩
def TT (p:Nat):Int:=((10 ^ p:Nat):Int)
theorem TT_pos (p:Nat):0<TT p:=by unfold TT;have:=Nat.pow_pos (n:=p) (show 0<10 by decide);omega
theorem TT_dig (p:Nat):Dig (p+1) (TT p):=by
 unfold Dig TT;rw [Int.natAbs_natCast,Nat.pow_succ];have:=Nat.pow_pos (n:=p) (show 0<10 by decide);omega
theorem TT_mul_dig {j p:Nat} {z:Int} (h:Dig j z):Dig (j+p) (z * TT p):=by
 unfold Dig TT at *;rw [Int.natAbs_mul,Int.natAbs_natCast,Nat.pow_add];exact Nat.mul_lt_mul_of_pos_right h (Nat.pow_pos (by decide))
theorem downI_dig {j p:Nat} {r:Rat} (h:QDig j r):Dig (j+p) (downI r (TT p)):=(TT_mul_dig h.1).ediv _
theorem upI_dig {j p:Nat} {r:Rat} (h:QDig j r):Dig (j+p+1) (upI r (TT p)):=by
 unfold upI;refine (downI_dig h).add ?_;have h1:0<10 ^ (j+p):=Nat.pow_pos (by decide);unfold Dig;split
 ·simpa using h1
 ·rcases Nat.eq_zero_or_pos (j+p) with e | e
  ·exfalso;have h2:QDig 0 r:=h.mono (by omega);have:=den_pos r;have h3:=h2.2;unfold Dig at h3;simp at h3;omega
  ·have:10 ^ 1≤10 ^ (j+p):=Nat.pow_le_pow_right (by decide) e;show (1:Int).natAbs<_;have e1:(1:Int).natAbs=1:=rfl;omega
theorem dn_dig {j p:Nat} {r:Rat} (h:QDig j r):QDig (j+p+1) (dn r (TT p)):=by
 refine reduced_dig (TT_pos p) ((downI_dig h).mono (by omega)) ?_;rcases Nat.eq_zero_or_pos j with e | e
 ·subst e;have h3:=h.2;unfold Dig at h3;have:=den_pos r;omega
 ·exact (TT_dig p).mono (by omega)
theorem uq_dig {j p:Nat} {r:Rat} (h:QDig j r):QDig (j+p+1) (uq r (TT p)):=by
 refine reduced_dig (TT_pos p) (upI_dig h) ?_;rcases Nat.eq_zero_or_pos j with e | e
 ·subst e;have h3:=h.2;unfold Dig at h3;have:=den_pos r;omega
 ·exact (TT_dig p).mono (by omega)
theorem roundI_dig {j p:Nat} {a:Iv} (h:IDig j a):IDig (j+p+1) (roundI a (TT p)):=⟨dn_dig h.1,uq_dig h.2⟩
theorem rootQ_dig {j p:Nat} {r:Rat} (h:QDig j r):Dig (j+p+p) (rootQ r (TT p)):=(TT_mul_dig (TT_mul_dig h.1)).ediv _
theorem root_le {q m:Int} (h:IsRootI q m):0≤m∧m≤q:=by
 obtain ⟨h0,h1,_⟩:=h;refine ⟨h0,?_⟩;rcases Int.lt_or_le 0 m with h2 | h2
 ·have:m * 1≤m * m:=Int.mul_le_mul_of_nonneg_left (by omega) h0;omega
 ·have e:m=0:=by omega
  subst e;simpa using h1
theorem RootLo.dig {j p:Nat} {r x:Rat} (h:QDig j r) (hx:RootLo r (TT p) x):QDig (j+p+p+1) x:=by
 obtain ⟨m,hm,rfl⟩:=hx;obtain ⟨h0,h1⟩:=root_le hm;have hd:Dig (j+p+p) m:=(rootQ_dig h).of_le (by omega);exact reduced_dig (TT_pos p) (hd.mono (by omega)) ((TT_dig p).mono (by omega))
theorem RootHi.dig {j p:Nat} {r x:Rat} (h:QDig j r) (hj:0<j) (hx:RootHi r (TT p) x):QDig (j+p+p+1) x:=by
 obtain ⟨m,hm,hx⟩:=hx;obtain ⟨h0,h1⟩:=root_le hm;have hd:Dig (j+p+p) m:=(rootQ_dig h).of_le (by omega);rcases hx with ⟨_,rfl⟩ | ⟨_,rfl⟩
 ·exact reduced_dig (TT_pos p) (hd.mono (by omega)) ((TT_dig p).mono (by omega))
 ·exact reduced_dig (TT_pos p) (hd.add (dig_small (by decide) (by omega))) ((TT_dig p).mono (by omega))
def SqrtI (a:Iv) (T:Int) (s:Iv):Prop:=RootLo a.lo T s.lo∧RootHi a.hi T s.hi
theorem SqrtI.dig {j p:Nat} {a s:Iv} (h:IDig j a) (hj:0<j) (hs:SqrtI a (TT p) s):IDig (j+p+p+1) s:=⟨hs.1.dig h.1,hs.2.dig h.2 hj⟩
theorem SqrtI.ok {a s:Iv} {T:Int} (hT:0<T) (ha:a.Ok) (hs:SqrtI a T s):s.Ok:=by
 obtain ⟨a1,a2,_⟩:=hs.1.spec hT;obtain ⟨b1,b2,_⟩:=hs.2.spec hT;have h:a.lo≤a.hi:=ha;exact le_of_sq b1 (Rat.le_trans a2 (Rat.le_trans h b2))
theorem SqrtI.sub {a c s t:Iv} {T:Int} (hT:0<T) (h:a.Sub c) (hs:SqrtI a T s) (ht:SqrtI c T t):s.Sub t:=⟨ht.1.mono hT hs.1 h.1,hs.2.mono hT ht.2 h.2⟩
end Go.Proofs.YtdikaoahgleffaaGreatDoor
