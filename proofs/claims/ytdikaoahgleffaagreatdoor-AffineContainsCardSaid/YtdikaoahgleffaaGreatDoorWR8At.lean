/-
 Affine, plain: sums and products of what forms can be; the line of the inverse. Affine, plain: the root of a form: nothing is too large, and it can be the root. Affine, plain: what the results of Add, Sub, Scale, Mul, Inverse and Round can be; how large they are. The laws' inputs: small fractions, intervals of them, fractions inside; ratio and span. The reference implementation's Inside: a fraction of an interval. The reference of affine: At, where all sources have values; what the law takes a form to be.
-/
import Derived.Test.YtdikaoahgleffaaGreatDoorWAInverse
import Derived.Test.YtdikaoahgleffaaGreatDoorWARndPlain
import Derived.Test.YtdikaoahgleffaaGreatDoorWEOps
import Derived.Test.YtdikaoahgleffaaGreatDoorWEnv8
import Derived.Test.YtdikaoahgleffaaGreatDoorWR8
set_option linter.unusedSimpArgs false
set_option linter.unusedVariables false
set_option maxRecDepth 100000
set_option maxHeartbeats 16000000
namespace Go.Proofs.YtdikaoahgleffaaGreatDoor
open Go Go.Lib
theorem CanBe.comb {a b:Frm} {x y v w p q:Rat} (ha:CanBe a x v) (hb:CanBe b y w):CanBe (combF p q a b) (p * x+q * y) (p * v+q * w):=by
 obtain ⟨a1,a2⟩:=ha;obtain ⟨b1,b2⟩:=hb;obtain ⟨m1,m2⟩:=absQ_mul_le (p:=p) (e:=v - (a.c+x)) (r:=a.r) (by grind) (by grind);obtain ⟨n1,n2⟩:=absQ_mul_le (p:=q) (e:=w - (b.c+y)) (r:=b.r) (by grind) (by grind);unfold CanBe combF;constructor <;> grind
theorem CanBe.mul {a b:Frm} {x y v w:Rat} (ha:CanBe a x v) (hb:CanBe b y w) (hx:x≤radTo a.t a.t.length ∧ -(radTo a.t a.t.length)≤x) (hy:y≤radTo b.t b.t.length ∧ -(radTo b.t b.t.length)≤y):CanBe (mulF a b) (b.c * x+a.c * y) (v * w):=by
 obtain ⟨a1,a2⟩:=ha;obtain ⟨b1,b2⟩:=hb;obtain ⟨x1,x2⟩:=hx;obtain ⟨y1,y2⟩:=hy;obtain ⟨m1,m2⟩:=absQ_mul_le (p:=b.c) (e:=v - (a.c+x)) (r:=a.r) (by grind) (by grind);obtain ⟨n1,n2⟩:=absQ_mul_le (p:=a.c) (e:=w - (b.c+y)) (r:=b.r) (by grind) (by grind);have r0:0≤rad a:=by unfold rad;grind
 have e1:v - a.c≤rad a ∧ -(rad a)≤v - a.c:=by unfold rad;constructor <;> grind
 have e2:w - b.c≤rad b ∧ -(rad b)≤w - b.c:=by unfold rad;constructor <;> grind
 obtain ⟨k1,k2⟩:=absQ_mul_le (p:=v - a.c) (e:=w - b.c) (r:=rad b) e2.2 e2.1;have k3:absQ (v - a.c) * rad b≤rad a * rad b:=by
  refine Rat.mul_le_mul_of_nonneg_right ?_ (by grind);by_cases h:v - a.c<0
  ·rw [absQ_neg h];grind
  ·rw [absQ_pos (by grind)];grind
 unfold CanBe mulF;constructor <;> grind
theorem inv_line {l h x:Rat} (hl:0<l) (h1:l≤x) (h2:x≤h):4 / (l+h)≤1 / x - -1 / (l * h) * x∧1 / x - -1 / (l * h) * x≤1 / l+1 / h:=by
 have hx:0<x:=by grind
 have hh:0<h:=by grind
 have hs:0<l+h:=by grind
 have i1:0<l⁻¹:=Rat.inv_pos.2 hl;have i2:0<h⁻¹:=Rat.inv_pos.2 hh;have i3:0<x⁻¹:=Rat.inv_pos.2 hx;have i4:0<(l+h)⁻¹:=Rat.inv_pos.2 hs;have e1:l * l⁻¹=1:=Rat.mul_inv_cancel _ (by grind);have e2:h * h⁻¹=1:=Rat.mul_inv_cancel _ (by grind);have e3:x * x⁻¹=1:=Rat.mul_inv_cancel _ (by grind);have e4:(l+h) * (l+h)⁻¹=1:=Rat.mul_inv_cancel _ (by grind);have e5:(l * h)⁻¹=l⁻¹ * h⁻¹:=by rw [Rat.inv_mul_rev];grind
 have a:0≤(x - l) * (h - x) * (x⁻¹ * (l⁻¹ * h⁻¹)):=Rat.mul_nonneg (Rat.mul_nonneg (by grind) (by grind)) (Rat.le_of_lt (Rat.mul_pos i3 (Rat.mul_pos i1 i2)));have b:0≤(l * ((h - x) * (h - x))+h * ((x - l) * (x - l))) * (x⁻¹ * (l⁻¹ * h⁻¹) * (l+h)⁻¹):=Rat.mul_nonneg (by
  have q1:=Rat.mul_nonneg (show 0≤h - x by grind) (show 0≤h - x by grind);have q2:=Rat.mul_nonneg (show 0≤x - l by grind) (show 0≤x - l by grind);have q3:=Rat.mul_nonneg (Rat.le_of_lt hl) q1;have q4:=Rat.mul_nonneg (Rat.le_of_lt hh) q2;grind) (Rat.le_of_lt (Rat.mul_pos (Rat.mul_pos i3 (Rat.mul_pos i1 i2)) i4))
 rw [Rat.div_def,Rat.div_def,Rat.div_def,Rat.div_def,Rat.div_def,e5];generalize x⁻¹=c at *;generalize l⁻¹=a' at *;generalize h⁻¹=b' at *;generalize (l+h)⁻¹=d at *;have k1:1 * a'+1 * b' - (1 * c - -1 * (a' * b') * x)=(x - l) * (h - x) * (c * (a' * b')):=by grind
 have k2:1 * c - -1 * (a' * b') * x - 4 * d=(l * ((h - x) * (h - x))+h * ((x - l) * (x - l))) * (c * (a' * b') * d):=by grind
 rw [← k1] at a;rw [← k2] at b;generalize 1 * c - -1 * (a' * b') * x=y at *;constructor <;> grind
end Go.Proofs.YtdikaoahgleffaaGreatDoor
namespace Go.Proofs.YtdikaoahgleffaaGreatDoor
open Go Go.Lib
theorem Gr.inv {d m:Nat} {q:Rat} (h:Gr d m q) (hq:0<q) (hd:0<d):∃ z:Nat,0<z∧z≤m∧Gr z d (1 / q):=by
 obtain ⟨z,h1,h2⟩:=h;have hd':(0:Rat)<((d:Int):Rat):=Rat.intCast_pos.2 (by omega);have hz:0<z:=by
  have:=Rat.mul_pos hq hd';rw [h1] at this;exact Rat.intCast_pos.1 this
 refine ⟨z.natAbs,by omega,h2,(d:Int),?_,by omega⟩;rw [show ((z.natAbs:Nat):Int)=z by omega,← h1,Rat.div_def];have:=Rat.mul_inv_cancel q (by grind);grind
theorem gr_half:Gr 2 1 (1 / 2):=⟨1,by decide +kernel,by decide⟩
end Go.Proofs.YtdikaoahgleffaaGreatDoor
namespace Go.Proofs.YtdikaoahgleffaaGreatDoor
open Go Go.Lib
def Fit (vs:List Trm) (f:Frm) (v:Rat):Prop:=CanBe f (dot f.t vs vs.length) v
theorem dot_none (vs:List Trm):∀ k,dot [] vs k=0
 | 0=>rfl
 | k+1=>by unfold dot;rw [dot_none vs k,cf_nil];grind
theorem Fit.const (vs:List Trm) (q:Rat):Fit vs (constF q) q:=by
 show CanBe (constF q) (dot [] vs vs.length) q;rw [dot_none];unfold CanBe constF;simp only;grind
theorem Fit.comb {vs:List Trm} {a b:Frm} {p q v w:Rat} (sa:SrcOk a.t) (sb:SrcOk b.t) (ha:Fit vs a v) (hb:Fit vs b w):Fit vs (combF p q a b) (p * v+q * w):=by
 have e:dot (combF p q a b).t vs vs.length=p * dot a.t vs vs.length+q * dot b.t vs vs.length:=dot_lin (fun id=>lin_cf sa sb id) _;unfold Fit;rw [e];exact CanBe.comb ha hb
theorem Fit.scale {vs:List Trm} {a:Frm} {p v:Rat} (sa:SrcOk a.t) (ha:Fit vs a v):Fit vs (combF p 0 a (constF 0)) (p * v):=by
 have:=Fit.comb (p:=p) (q:=0) sa (b:=constF 0) SrcOk.nil ha (Fit.const vs 0)
 rwa [show p * v+0 * 0=p * v by grind] at this
theorem Fit.line {vs:List Trm} {a:Frm} {v g s u w:Rat} (sa:SrcOk a.t) (ha:Fit vs a v) (h1:u≤g - s * v) (h2:g - s * v≤w):Fit vs (lineF s u w a) g:=by
 have e:dot (lineF s u w a).t vs vs.length=s * dot a.t vs vs.length+0 * 0:=by
  have:=dot_lin (p:=s) (q:=0) (a:=a.t) (b:=[]) (s:=(combF s 0 a (constF 0)).t) (vs:=vs) (fun id=>lin_cf sa SrcOk.nil id) vs.length;rw [dot_none] at this;exact this
 unfold Fit;rw [e];exact CanBe.line ha h1 h2
theorem Fit.range {vs:List Trm} {a:Frm} {v:Rat} (sa:SrcOk a.t) (hv:ValsOk vs) (al:AllIn vs a.t) (h:Fit vs a v):(rangeI a).lo≤v∧v≤(rangeI a).hi:=by
 obtain ⟨d1,d2⟩:=dot_rad sa hv.src al hv.unit;obtain ⟨h1,h2⟩:=h;show a.c - rad a≤v∧v≤a.c+rad a;unfold rad;constructor <;> grind
theorem Fit.mul {vs:List Trm} {a b:Frm} {v w:Rat} (hv:ValsOk vs) (sa:SrcOk a.t) (sb:SrcOk b.t) (aa:AllIn vs a.t) (ab:AllIn vs b.t) (ha:Fit vs a v) (hb:Fit vs b w):Fit vs (mulF a b) (v * w):=by
 have e:dot (mulF a b).t vs vs.length=b.c * dot a.t vs vs.length+a.c * dot b.t vs vs.length:=dot_lin (fun id=>lin_cf sa sb id) _;unfold Fit;rw [e];exact CanBe.mul ha hb (dot_rad sa hv.src aa hv.unit) (dot_rad sb hv.src ab hv.unit)
theorem Fit.inv {vs:List Trm} {a:Frm} {v:Rat} (hv:ValsOk vs) (sa:SrcOk a.t) (al:AllIn vs a.t) (h0:0<(rangeI a).lo) (ha:Fit vs a v):Fit vs (invF a) (1 / v):=by
 obtain ⟨r1,r2⟩:=Fit.range sa hv al ha;obtain ⟨i1,i2⟩:=inv_line h0 r1 r2;exact Fit.line sa ha i1 i2
theorem Fit.round {vs:List Trm} {a:Frm} {v:Rat} {T:Int} (hT:0<T) (hv:ValsOk vs) (sa:SrcOk a.t) (al:AllIn vs a.t) (ha:Fit vs a v):Fit vs (rndF T a) v:=CanBe.round hT sa hv.src al hv.unit ha
/-! The negative of a form. -/
def negF (a:Frm):Frm:=combF (-1) 0 a (constF 0)
theorem lin_neg:∀ {l:List Trm},SrcOk l→(∀ p,p ∈ l→p.c≠0)→lin (-1) 0 l []=l.map fun t=>⟨t.s, -1 * t.c⟩
 | [],_,_=>lin_nil _ _
 | x :: l,h,hz=>by
  have h0 : -1 * x.c≠0:=by have:=hz x (List.mem_cons_self ..);grind
  rw [lin_left,lin_neg h.tail (fun p hp=>hz p (List.mem_cons_of_mem _ hp))];unfold ahead;rw [if_neg h0];rfl
theorem neg_abs (x:Rat):absQ (-1 * x)=absQ x:=by unfold absQ;split <;> split <;> grind
theorem neg_rad {a:Frm} (oa:a.Ok):rad (negF a)=rad a:=by
 have e:(negF a).t=a.t.map fun t=>⟨t.s, -1 * t.c⟩:=lin_neg oa.src oa.nz
 have er:(negF a).r=a.r:=by show absQ (-1) * a.r+absQ 0 * 0=a.r;rw [absQ_minus,absQ_zero];grind
 have h:∀ k,k≤a.t.length→radTo (a.t.map fun t=>(⟨t.s, -1 * t.c⟩:Trm)) k=radTo a.t k:=by
  intro k
  induction k with
  | zero=>intro _;rfl
  | succ k ih =>
   intro hk;have hk2:k<(a.t.map fun t=>(⟨t.s, -1 * t.c⟩:Trm)).length:=by rw [List.length_map];omega
   unfold radTo;rw [ih (by omega),trD_get hk2,trD_get (show k<a.t.length by omega)];simp [neg_abs]
 unfold rad;rw [e,er,List.length_map,h _ (Nat.le_refl _)]
theorem neg_c (a:Frm):(negF a).c = -1 * a.c:=by show -1 * a.c+0 * 0=_;grind
theorem neg_len {a:Frm} (oa:a.Ok):(negF a).t.length=a.t.length:=by
 have e:(negF a).t=a.t.map fun t=>⟨t.s, -1 * t.c⟩:=lin_neg oa.src oa.nz
 rw [e,List.length_map]
theorem neg_lo {a:Frm} (oa:a.Ok):(rangeI (negF a)).lo=0 - (rangeI a).hi:=by
 show (negF a).c - rad (negF a)=0 - (a.c+rad a);rw [neg_c,neg_rad oa];grind
theorem neg_gr {d m:Nat} {a:Frm} (oa:a.Ok) (h:FGr d m a):FGr d m (negF a):=by
 have n1:∀ {x:Rat},Gr d m x→Gr d m (-1 * x):=fun {x} hx=>by
  obtain ⟨z,h1,h2⟩:=hx;refine ⟨-z,?_,by omega⟩;rw [Rat.intCast_neg,← h1];grind
 refine ⟨by rw [neg_c];exact n1 h.c,fun t ht => ?_,?_⟩
 ·have e:(negF a).t=a.t.map fun t=>⟨t.s, -1 * t.c⟩:=lin_neg oa.src oa.nz
  rw [e] at ht;obtain ⟨x,hx,rfl⟩:=List.mem_map.1 ht;exact n1 (h.t x hx)
 ·show Gr d m (absQ (-1) * a.r+absQ 0 * 0);rw [absQ_minus,absQ_zero,show 1 * a.r+0 * 0=a.r by grind];exact h.r
theorem neg_ok {a:Frm} (oa:a.Ok):(negF a).Ok:=comb_ok oa (const_ok 0) (by
 have:=neg_len oa;show (negF a).t.length≤64;rw [this];exact oa.few)
theorem neg_combF {k:Nat} {a:Frm} (oa:a.Ok) (da:FDig k a) (h9:9≤k) (hk:k≤90):CombF (-1) 0 a (constF 0) :=
 CombF.of (j:=9) (k:=k) mone_dig (qd (by decide +kernel)) da ⟨(qd (by decide +kernel):QDig 9 0).mono h9,fun p hp=>(by cases hp),(qd (by decide +kernel):QDig 9 0).mono h9⟩ (by omega) (neg_ok oa).few
/-! The inverse: nothing is too large. -/
structure InvN (l h:Rat) (z y:Nat):Prop where
 z0:0<z
 z1:z≤560 * 560
 y0:0<y
 y1:y≤1120
 s:Gr z 16 (-1 / (l * h))
 u:Gr y 16 (4 / (l+h))
 v1:QDig 20 (1 / l)
 v2:QDig 20 (1 / h)
 v:Gr z 4480 (1 / l+1 / h)
theorem gr_neg {d m:Nat} {q:Rat} (h:Gr d m q):Gr d m (-1 * q):=by
 obtain ⟨z,h1,h2⟩:=h;refine ⟨-z,?_,by omega⟩;rw [Rat.intCast_neg,← h1];grind
theorem inv_nums {l h:Rat} (gl:Gr 4 560 l) (gh:Gr 4 560 h) (l0:0<l) (h0:0<h):∃ z y,InvN l h z y:=by
 obtain ⟨zl,a0,a1,ga⟩:=gl.inv l0 (by decide);obtain ⟨zh,b0,b1,gb⟩:=gh.inv h0 (by decide);obtain ⟨zs,c0,c1,gc⟩:=(gl.add gh).inv (show 0<l+h by grind) (by decide);have e1 : -1 / (l * h) = -1 * (1 / l * (1 / h)):=by rw [Rat.div_def,Rat.div_def,Rat.div_def,Rat.inv_mul_rev];grind
 have e2:4 / (l+h)=4 * (1 / (l+h)):=by rw [Rat.div_def,Rat.div_def];grind
 have g4:Gr 1 4 4:=⟨4,by decide +kernel,by decide⟩
 refine ⟨zl * zh,zs,⟨Nat.mul_pos a0 b0,Nat.mul_le_mul a1 b1,c0,c1,?_,?_,ga.dig a0 (by omega) (by decide),gb.dig b0 (by omega) (by decide),?_⟩⟩
 ·rw [e1];exact gr_neg (ga.mul gb)
 ·rw [e2];exact (g4.mul gc).cast (by omega) (by decide)
 ·exact ((ga.fine zh).add ((gb.fine zl).cast (Nat.mul_comm _ _) (Nat.le_refl _))).mono (by omega)
theorem inv_all {a:Frm} (ha:FGr 4 80 a) (oa:a.Ok) (few:a.t.length≤5) (pos:0<(rangeI a).lo):InvF a∧∃ D:Nat,0<D∧D≤10 ^ 12∧FGr D (10 ^ 12) (invF a):=by
 have gR:=rad_gr ha (n:=6) (by omega);have gl:Gr 4 560 (rangeI a).lo:=(ha.c.sub gR).mono (by decide);have gh:Gr 4 560 (rangeI a).hi:=(ha.c.add gR).mono (by decide);have le:(rangeI a).lo≤(rangeI a).hi:=by
  have:=rad_nonneg oa.rest;show a.c - rad a≤a.c+rad a;grind
 have hh:0<(rangeI a).hi:=by grind
 have rF:RangeF a:=RangeF.made ha few;obtain ⟨z,y,n⟩:=inv_nums gl gh pos hh;obtain ⟨z0,z1,y0,y1,gs,gu,v1,v2,gv⟩:=n;have q2:QDig 9 2:=qd (by decide +kernel);have q4:QDig 9 4:=qd (by decide +kernel);have q0:QDig 9 0:=qd (by decide +kernel);have ql:QDig 9 (rangeI a).lo:=gl.dig (by decide) (by decide) (by decide);have qh:QDig 9 (rangeI a).hi:=gh.dig (by decide) (by decide) (by decide);have qS:QDig 9 ((rangeI a).lo+(rangeI a).hi):=(gl.add gh).dig (by decide) (by decide) (by decide);have qs:QDig 20 (-1 / ((rangeI a).lo * (rangeI a).hi)):=gs.dig z0 (by omega) (by decide);have qu:QDig 20 (4 / ((rangeI a).lo+(rangeI a).hi)):=gu.dig y0 (by omega) (by decide);have qv:QDig 20 (1 / (rangeI a).lo+1 / (rangeI a).hi):=gv.dig z0 (by omega) (by decide);have lne:(rangeI a).lo≠0:=by grind
 have hne:(rangeI a).hi≠0:=by grind
 have sne:(rangeI a).lo+(rangeI a).hi≠0:=by grind
 have pne:(rangeI a).lo * (rangeI a).hi≠0:=by have:=Rat.mul_pos pos hh;grind
 have zy:z * y≤560 * 560 * 1120:=Nat.mul_le_mul z1 y1;have hz:0<z * y:=Nat.mul_pos z0 y0;have guv0:Gr (z * y) (10 ^ 8) (4 / ((rangeI a).lo+(rangeI a).hi)+(1 / (rangeI a).lo+1 / (rangeI a).hi)):=(((gu.fine z).cast (Nat.mul_comm _ _) (Nat.le_refl _)).add (gv.fine y)).mono (by omega);have gvu0:Gr (z * y) (10 ^ 8) (1 / (rangeI a).lo+1 / (rangeI a).hi - 4 / ((rangeI a).lo+(rangeI a).hi)):=((gv.fine y).sub ((gu.fine z).cast (Nat.mul_comm _ _) (Nat.le_refl _))).mono (by omega);have half:∀ {x:Rat},Gr (z * y) (10 ^ 8) x→Gr (z * y * 8) (10 ^ 9) (x / 2):=fun {x} hx=>by
  rw [Rat.div_def,show (2:Rat)⁻¹=1 / 2 by decide +kernel];exact ((hx.mul gr_half).fine 4).cast (by rw [Nat.mul_assoc]) (by decide)
 have guv:=half guv0;have gvu:=half gvu0;have gx:∀ {x:Rat},Gr 4 80 x→Gr (z * y * 8) (10 ^ 8) (-1 / ((rangeI a).lo * (rangeI a).hi) * x):=fun hx=>((gs.mul hx).fine (y * 2)).cast (by grind) (by omega)
 have gr:∀ {x:Rat},Gr 4 80 x→Gr (z * y * 8) (10 ^ 8) (absQ (-1 / ((rangeI a).lo * (rangeI a).hi)) * x):=fun hx=>((gs.abs.mul hx).fine (y * 2)).cast (by grind) (by omega)
 have dz:0<z * y * 8:=by omega
 have dl:z * y * 8<10 ^ 20:=by omega
 have da:FDig 9 a:=ha.dig (by decide) (by decide) (by decide);have dk:FDig 9 (constF 0):=⟨q0,fun p hp=>(by cases hp),q0⟩
 have hlen:(lin (-1 / ((rangeI a).lo * (rangeI a).hi)) 0 a.t (constF 0).t).length≤64:=Nat.le_trans (lin_ok oa.src SrcOk.nil).len (by show a.t.length+0≤64;omega);have quv:QDig 20 (4 / ((rangeI a).lo+(rangeI a).hi)+(1 / (rangeI a).lo+1 / (rangeI a).hi)):=guv0.dig hz (by omega) (by decide);have qvu:QDig 20 (1 / (rangeI a).lo+1 / (rangeI a).hi - 4 / ((rangeI a).lo+(rangeI a).hi)):=gvu0.dig hz (by omega) (by decide);have gcc:Gr (z * y * 8) (10 ^ 8) (combF (-1 / ((rangeI a).lo * (rangeI a).hi)) 0 a (constF 0)).c:=by
  have:=gx ha.c;show Gr _ _ (_ * a.c+0 * 0);rw [show ∀ x:Rat,x+0 * 0=x from fun x=>by grind];exact this
 have grr:Gr (z * y * 8) (10 ^ 8) (combF (-1 / ((rangeI a).lo * (rangeI a).hi)) 0 a (constF 0)).r:=by
  have:=gr ha.r;show Gr _ _ (_ * a.r+absQ 0 * 0);rw [show ∀ x:Rat,x+absQ 0 * 0=x from fun x=>by grind];exact this
 have hLine:LineF (-1 / ((rangeI a).lo * (rangeI a).hi)) (4 / ((rangeI a).lo+(rangeI a).hi)) (1 / (rangeI a).lo+1 / (rangeI a).hi) a :=
  ⟨CombF.of qs (q0.mono (show 9≤20 by decide)) da dk (by decide) hlen,AF.of qu qv (by decide),DF.of quv q2 (by decide) (by decide +kernel),AF.of (gcc.dig (k:=20) dz dl (by decide)) (guv.dig (k:=20) dz dl (by decide)) (by decide),SF.of qv qu (by decide),DF.of qvu q2 (by decide) (by decide +kernel),AF.of (grr.dig (k:=20) dz dl (by decide)) (gvu.dig (k:=20) dz dl (by decide)) (by decide)⟩
 refine ⟨⟨rF,pos,le,ql.mono (by decide),qh.mono (by decide),MF.of ql qh (by decide),DF.of mone_dig (ql.mul qh) (by decide) pne,AF.of ql qh (by decide),DF.of q4 qS (by decide) sne,DF.of one_dig ql (by decide) lne,DF.of one_dig qh (by decide) hne,AF.of v1 v2 (by decide),hLine⟩,z * y * 8,dz,by omega,?_,fun t ht => ?_,?_⟩
 ·exact (gcc.add guv).mono (by decide)
 ·exact (lin_gr (a.t.length+0) a.t [] (Nat.le_refl _) (fun x hx=>gx (ha.t x hx)) (fun y hy=>by cases hy) t ht).mono (by decide)
 ·exact (grr.add gvu).mono (by decide)
end Go.Proofs.YtdikaoahgleffaaGreatDoor
namespace Go.Proofs.YtdikaoahgleffaaGreatDoor
open Go Go.RowKit Go.Lib Go.Shelf
def QSome (Pr:Rat→Prop) (w:World) (e:Ending) (w':World):Prop:=∃ q,Pr q∧e = .returned (Q q)∧Below w.heap.size w w'
theorem small_dig {n d:Int} (h1:n.natAbs<1000) (h2:0<d) (h3:d<1000):QDig 3 (Rat.divInt n d):=QDig.ofInt h2 (by unfold Dig;omega) (by unfold Dig;omega)
theorem Row.lt {W:World} {b:Nat} {o:Obj} (h:Row W b o):b<W.heap.size:=h.1
theorem inside_has {a:Iv} {r:Int} (ho:a.Ok) (h0:0≤r) (h1:r≤100):a.Has (a.lo+(a.hi - a.lo) * Rat.divInt r 100):=by
 have ho2:a.lo≤a.hi:=ho;have l0:0≤Rat.divInt r 100:=(le_divInt (by decide)).2 (by have:=Rat.intCast_nonneg.2 h0;grind);have l1:Rat.divInt r 100≤1:=(divInt_le (by decide)).2 (by have:=Rat.intCast_le_intCast.2 h1;grind);have k0:=Rat.mul_le_mul_of_nonneg_left (a:=0) (b:=Rat.divInt r 100) (c:=a.hi - a.lo) l0 (by grind);have k1:=Rat.mul_le_mul_of_nonneg_left (a:=Rat.divInt r 100) (b:=1) (c:=a.hi - a.lo) l1 (by grind);constructor <;> grind
end Go.Proofs.YtdikaoahgleffaaGreatDoor
namespace Go.Proofs.YtdikaoahgleffaaGreatDoor
open Go Go.RowKit Go.Lib Go.Shelf
theorem pick5 (c n:Int) (hc:IsInt c) (hn:0<n) (hn2:n≤1000000) (w:World):Calls Tryz.prog 98 #[.int .i64 c,.int .i64 n] w fun e w'=>(∃ r:Nat,e = .returned (.int .i64 (r:Int))∧(r:Int)<n)∧w'=w:=by
 obtain ⟨c0,c1⟩:=hc;have nz:¬ n=0:=by omega
 by_cases h:c<0
 ·have e : -((c+1).tmod n)=(-(c+1)) % n:=by rw [← Int.neg_tmod,Int.tmod_eq_emod_of_nonneg (by omega)]
  have b0:=Int.emod_nonneg (-(c+1)) nz;have b1:=Int.emod_lt_of_pos (-(c+1)) hn;have E:=Lib.hid e;have B:=Lib.hid (And.intro b0 b1);clear e b0 b1;go_enter Tryz.func98, Tryz.ntmps98;go_wp2;go_ret;obtain ⟨b0,b1⟩:=B.out;refine ⟨⟨((-(c+1)) % n).toNat,?_,by omega⟩,rfl⟩;rw [Int.toNat_of_nonneg b0,← E.out];rfl
 ·have b0:=Int.emod_nonneg c nz;have b1:=Int.emod_lt_of_pos c hn;have B:=Lib.hid (And.intro b0 b1);clear b0 b1;go_enter Tryz.func98, Tryz.ntmps98;go_wp2;go_ret;obtain ⟨b0,b1⟩:=B.out;refine ⟨⟨(c % n).toNat,?_,by omega⟩,rfl⟩;rw [Int.toNat_of_nonneg b0];rfl
theorem rinside (a:Iv) (j:Nat) (da:IDig j a) (hj:j≤40) (ho:a.Ok) (part:Int) (hp:IsInt part) (w:World):Calls Tryz.prog 33 #[I a,.int .i64 part] w (QSome (fun r=>QDig (3 * j+5) r∧a.Has r) w):=by
 have M0:=fun W=>rqsub da.2 da.1 (by omega) W
 have dw:=da.2.sub da.1;have MP:=fun W=>pick5 part 101 hp (by omega) (by omega) W
 have ho2:=Lib.hid ho;clear hp ho;unfold QOk Q at M0;unfold I;have hB:Below w.heap.size w w:=Below.refl _ _;go_enter Tryz.func33, Tryz.ntmps33;go_wp2_with fail;have sB:=hB.size;refine world_cut (fun X=>Below w.heap.size w X∧Row X w.heap.size (oI a.lo a.hi)∧Row X (w.heap.size+1) oR0) ⟨C1_hB,C2,C2⟩ ?_;clear hB sB;rintro V1 ⟨hB,ra,ro⟩;have sa:=Row.cells4 ra;have so:=Row.cells2 ro;refine (M0 _).mono ?_;rintro e W2 ⟨rfl,h1⟩;clear sa so;replace hB:=hB.trans (h1.mono hB.size);replace ra:=Row.below ra h1;replace ro:=Row.below ro h1;clear h1;have sa:=Row.cells4 ra;have so:=Row.cells2 ro;have olt:=ro.1;obtain ⟨wd,hwd⟩:∃ x,x=a.hi - a.lo:=⟨_,rfl⟩
 rw [← hwd] at dw ⊢;have HWD:=Lib.hid hwd;clear hwd;go_wp2_with fail;have sB:=hB.size;refine world_cut (kp2 hB ra ro fun X=>Row X W2.heap.size (oR wd)) ⟨C1_hB,C3_ra,C3_ro,C2⟩ ?_;unfold kp2;clear ra sa ro so hB sB;rintro V3 ⟨hB,ra,ro,rw⟩;have sa:=Row.cells4 ra;have so:=Row.cells2 ro;have sw:=Row.cells2 rw;refine (MP _).mono ?_;rintro e WP ⟨⟨r,rfl,hr⟩,rfl⟩;have MO:=fun W=>rqof (n:=(r:Int)) (d:=100) ⟨by omega,by omega⟩ ⟨by omega,by omega⟩ (by omega) W
 have dh:QDig 3 (Rat.divInt (r:Int) 100):=small_dig (by omega) (by omega) (by omega);have HAS:=Lib.hid (inside_has (r:=(r:Int)) ho2.out (by omega) (by omega));rw [← HWD.out] at HAS;unfold QOk Q at MO;generalize Rat.divInt (r:Int) 100=h at *;have wlt:=rw.1;go_wp2_with fail;refine (MO _).mono ?_;rintro e W4 ⟨rfl,h1⟩;clear sa so sw;replace hB:=hB.trans (h1.mono hB.size);replace ra:=Row.below ra h1;replace ro:=Row.below ro h1;replace rw:=Row.below rw h1;clear h1;have sa:=Row.cells4 ra;have so:=Row.cells2 ro;have sw:=Row.cells2 rw;have ohl:=ro.1;have MM:=fun W=>rqmul dw dh (by omega) W
 have dd:=dw.mul dh;unfold QOk Q at MM;generalize wd * h=d at *;go_wp2_with fail;have sB:=hB.size;refine world_cut (kp3 hB ra ro rw fun X=>Row X W4.heap.size (oR h)) ⟨C1_hB,C3_ra,C3_ro,C3_rw,C2⟩ ?_;unfold kp3;clear ra sa ro so rw sw hB sB;rintro V5 ⟨hB,ra,ro,rw,rh⟩;have sa:=Row.cells4 ra;have so:=Row.cells2 ro;have sw:=Row.cells2 rw;have sh:=Row.cells2 rh;refine (MM _).mono ?_;rintro e WM ⟨rfl,h1⟩;clear sa so sw sh;replace hB:=hB.trans (h1.mono hB.size);replace ra:=Row.below ra h1;replace ro:=Row.below ro h1;replace rw:=Row.below rw h1;replace rh:=Row.below rh h1;clear h1;have sa:=Row.cells4 ra;have so:=Row.cells2 ro;have sw:=Row.cells2 rw;have sh:=Row.cells2 rh;have oml:=ro.1;have MA:=fun W=>rqadd da.1 dd (by omega) W
 have dr:=da.1.add dd;unfold QOk Q at MA;generalize a.lo+d=r2 at *;have hlt:=rh.1;go_wp2_with fail;have sB:=hB.size;refine world_cut (kp4 hB ra ro rw rh fun X=>Row X WM.heap.size (oR d)) ⟨C1_hB,C3_ra,C3_ro,C3_rw,C3_rh,C2⟩ ?_;unfold kp4;clear ra sa ro so rw sw rh sh hB sB;rintro V7 ⟨hB,ra,ro,rw,rh,rd⟩;have sa:=Row.cells4 ra;have so:=Row.cells2 ro;have sw:=Row.cells2 rw;have sh:=Row.cells2 rh;have sd:=Row.cells2 rd;refine (MA _).mono ?_;rintro e WN ⟨rfl,h1⟩;clear sa so sw sh sd;replace hB:=hB.trans (h1.mono hB.size);replace ra:=Row.below ra h1;replace ro:=Row.below ro h1;replace rw:=Row.below rw h1;replace rh:=Row.below rh h1;replace rd:=Row.below rd h1;clear h1;have sa:=Row.cells4 ra;have so:=Row.cells2 ro;have sw:=Row.cells2 rw;have sh:=Row.cells2 rh;have sd:=Row.cells2 rd;have dlt:=rd.1;have onl:=ro.1;go_wp2;have sB:=hB.size;refine post_cut (kp4 hB ra rw rh rd fun X=>Row X (w.heap.size+1) (oR r2)∧Row X WN.heap.size (oR r2)) ⟨C1_hB,C3_ra,C3_rw,C3_rh,C3_rd,C3_ro,C2⟩ ?_;unfold kp4;clear ra sa ro so rw sw rh sh rd sd hB sB;rintro V8 ⟨hB,ra,rw,rh,rd,ro,rr⟩;have sa:=Row.cells4 ra;have so:=Row.cells2 ro;have sw:=Row.cells2 rw;have sh:=Row.cells2 rh;have sd:=Row.cells2 rd;have sr:=Row.cells2 rr;refine bodyPost_ret (v := .agg #[.string (S r2.num),.string (S (r2.den:Int))]) ?res rfl ⟨r2,⟨dr.mono (by omega),HAS.out⟩,rfl,hB⟩
 case res=>simp [results,Tryz.results33, go_sem,so]
end Go.Proofs.YtdikaoahgleffaaGreatDoor
namespace Go.Proofs.YtdikaoahgleffaaGreatDoor
open Go Go.RowKit Go.Lib Go.Shelf
attribute [local go_sem] normalQ
theorem look_first {l:List Trm} (h:SrcOk l) {id:Nat} {v:Rat} (e:look l id=some v):∃ k,k<l.length∧(trD l k).s=id∧(trD l k).c=v∧∀ i,i<k→(trD l i).s≠id:=by
 obtain ⟨p,hp,h1,h2⟩:=look_mem e;obtain ⟨k,hk,rfl⟩:=List.getElem_of_mem hp;rw [← trD_get hk] at h1 h2;exact ⟨k,hk,h1,h2,fun i hi e2=>by have:=h.lt hi hk;omega⟩
structure At8F (j:Nat) (f:Frm) (vs:List Trm):Prop where
 le:j≤60
 t:∀ k,k<f.t.length→QDig j (trD f.t k).c
 v:∀ k,k<vs.length→QDig j (trD vs k).c
 m:∀ k,k≤f.t.length→QDig j (midTo vs f.c f.t k)
 r:QDig j f.r
theorem At8F.at {j:Nat} {f:Frm} {vs:List Trm} (al:AllIn vs f.t):atI f vs=⟨midTo vs f.c f.t f.t.length - (0+f.r),midTo vs f.c f.t f.t.length+(0+f.r)⟩:=by
 unfold atI;rw [others_all al];have:rad ⟨0,[],f.r⟩=0+f.r:=rfl;rw [this]
theorem r8at {j:Nat} {f:Frm} {vs:List Trm} (h:At8F j f vs) (al:AllIn vs f.t) (hv:ValsOk vs) (ho:f.Ok) (hd:FDig 200 f) (pf:Option Addr) (cq:Nat) (pv:Option Addr) (cv:Nat) (w:World) (hpf:TAt 55 w pf f.t) (hpv:TAt 55 w pv vs):Calls Tryz.prog 32 #[FV f pf cq,.slice pv vs.length cv] w (IvOk (atI f vs) w):=by
 have hB:Below w.heap.size w w:=Below.refl _ _;have HPf:=Lib.hid hpf;have HPv:=Lib.hid hpv;rw [At8F.at (j:=j) al];have MV:=fun W (h1:TAt 55 W pf f.t)=>r8valid ho hd pf cq W h1
 have ML:=fun W (h1:TAt 55 W pv vs)=>r8vals hv pv cv W h1
 have MZ:=fun W=>r8whole (n:=0) (by decide) whole0 W
 obtain ⟨n,hn⟩:=form_len f;obtain ⟨m,hm⟩:∃ m,vs.length=m:=⟨_,rfl⟩
 have hn64:n≤64:=hn ▸ ho.few;have hm64:m≤64:=hm ▸ hv.few;have hj:=h.le;have KEY:∀ i,i<f.t.length→∃ k,k<vs.length∧midTo vs f.c f.t (i+1)=midTo vs f.c f.t i+(trD f.t i).c * (trD vs k).c∧(∀ W,TAt 55 W pv vs→Calls Tryz.prog 92 #[.slice pv m cv,.int .i64 ((trD f.t i).s:Int)] W (IntIs (k:Int) W))∧(∀ bc W,Calls Tryz.prog 94 #[.pointer (some ⟨bc,0,none⟩),Q (trD f.t i).c,Q (trD vs k).c] W (QIs ((trD f.t i).c * (trD vs k).c) W))∧(∀ bc W,Calls Tryz.prog 93 #[.pointer (some ⟨bc,0,none⟩),Q (midTo vs f.c f.t i),Q ((trD f.t i).c * (trD vs k).c)] W (QIs (midTo vs f.c f.t (i+1)) W)):=fun i hi=>by obtain ⟨v,e⟩:=al _ (trD_mem hi);obtain ⟨k,hk,h1,h2,h3⟩:=look_first hv.src e;have e2:midTo vs f.c f.t (i+1)=midTo vs f.c f.t i+(trD f.t i).c * (trD vs k).c:=(by rw [mid_some e,h2]);refine ⟨k,hk,e2,fun W hW=>r8find hk h1 h3 pv m cv hm (by omega) W hW,fun bc W=>r8mul bc (h.t i hi) (h.v k hk) (by omega) W,fun bc W => ?_⟩;rw [e2];exact r8add bc (h.m i (by omega)) ((h.t i hi).mul (h.v k hk)) (by omega) W
 have MR:=fun bc W=>r8add bc (qd (by decide +kernel):QDig 9 0) h.r (by omega) W
 have MI:=fun bc W (r:Row W bc (.cells #[.bool false] 118))=>r8around bc (h.m _ (Nat.le_refl _)) ((qd (by decide +kernel):QDig 9 0).add h.r) (by omega) W r
 unfold BoolOk at MV ML;unfold QIs at *;unfold IntIs at KEY;unfold IvOk I at *;unfold FV at *;obtain ⟨z,hz⟩:∃ z:Rat,z=0:=⟨_,rfl⟩
 rw [← hz] at MZ MR MI;rw [← hz];clear hz;have hm0:midTo vs f.c f.t 0=f.c:=rfl;have HM0:=Lib.hid hm0;clear hm0;rw [hn] at KEY MV MI;rw [hm] at ML KEY;rw [hn,hm];generalize hxl:midTo vs f.c f.t n - (z+f.r)=xl at *;generalize hxh:midTo vs f.c f.t n+(z+f.r)=xh at *;generalize z+f.r=zr at *;dsimp only at MI;generalize midTo vs f.c f.t=mid at *;unfold Q at *;have HK:=Lib.hid KEY;have HN:=Lib.hid hn;have HMM:=Lib.hid hm;clear KEY hxl hxh hn hm hpf hpv h ho hd hv al;have hnI:(n:Int)≤64:=by omega
 have hmI:(m:Int)≤64:=by omega
 go_enter Tryz.func32, Tryz.ntmps32;go_wp2_with fail;have d0_o:w.heap.size≤w.heap.size+1:=by have:=hB.size;omega
 have sB:=hB.size;refine world_cut (fun X=>Below w.heap.size w X∧Row X w.heap.size (oF f.c f.r pf n cq)∧Row X (w.heap.size+1) oI0) ⟨BW,RW8,RW8⟩ ?_;clear hB sB;rintro V1 ⟨hB,rf,ro⟩;have sf:=RF5 rf;have so:=RFz4 ro;refine (MV _ (UAt.below HPf.out hB)).mono ?_;rintro e W2 ⟨rfl,h1⟩;have stp:=St2 hB h1 rf ro;clear hB h1 rf sf ro so;obtain ⟨hB,rf,ro⟩:=stp;have sf:=RF5 rf;have so:=RFz4 ro;go_wp2_with fail;refine (ML _ (UAt.below HPv.out hB)).mono ?_;rintro e W3 ⟨rfl,h1⟩;have stp:=St2 hB h1 rf ro;clear hB h1 rf sf ro so;obtain ⟨hB,rf,ro⟩:=stp;have sf:=RF5 rf;have so:=RFz4 ro;go_wp2_with fail;have do_k:w.heap.size+1<W3.heap.size:=by omega
 have df_m:w.heap.size<W3.heap.size+1:=by omega
 have do_m:w.heap.size+1<W3.heap.size+1:=by omega
 have d0_m:w.heap.size≤W3.heap.size+1:=by have:=hB.size;omega
 have sB:=hB.size;refine world_cut (kp2 hB rf ro fun X=>Row X W3.heap.size (.cells #[.bool false] 118)∧Row X (W3.heap.size+1) (oR f.c)) ⟨BW,RW8,RW8,RW8,RW8⟩ ?_;unfold kp2;clear rf sf ro so hB sB;rintro V4 ⟨hB,rf,ro,rk,rm⟩;have sf:=RF5 rf;have so:=RFz4 ro;have sk:=RF1 rk;have sm:=RFz2 rm;refine (MZ _).mono ?_;rintro e W5 ⟨rfl,h1⟩;have stp:=St4 hB h1 rf ro rk rm;clear hB h1 rf sf ro so rk sk rm sm;obtain ⟨hB,rf,ro,rk,rm⟩:=stp;have sf:=RF5 rf;have so:=RFz4 ro;have sk:=RF1 rk;have sm:=RFz2 rm;go_wp2_with fail;have df_y:w.heap.size<W5.heap.size:=by omega
 have do_y:w.heap.size+1<W5.heap.size:=by omega
 have dk_y:W3.heap.size<W5.heap.size:=by omega
 have dm_y:W3.heap.size+1<W5.heap.size:=by omega
 have d0_y:w.heap.size≤W5.heap.size:=by have:=hB.size;omega
 have sB:=hB.size;refine wp_cut (kp4 hB rf ro rk rm fun X=>Row X W5.heap.size (oR z)) ⟨BW,RW8,RW8,RW8,RW8,RW8⟩ ?_;unfold kp4;clear rf sf ro so rk sk rm sm hB sB;rintro V6 ⟨hB,rf,ro,rk,rm,ry⟩;have sf:=RF5 rf;have so:=RFz4 ro;have sk:=RF1 rk;have sm:=RFz2 rm;have sy:=RFz2 ry;clear sf so sk sm sy;rw [← HM0.out] at rm;go_loopw [11] (fun v11 wr=>∃ i:Nat,v11 = .int .i64 (i:Int)∧i≤n∧Below w.heap.size w wr∧Row wr w.heap.size (oF f.c f.r pf n cq)∧Row wr (w.heap.size+1) oI0∧Row wr W3.heap.size (.cells #[.bool false] 118)∧Row wr W5.heap.size (oR z)∧Row wr (W3.heap.size+1) (oR (mid i))) (fun v11 _=>(n - RowKit.intOf v11).toNat)
 case atStart=>exact ⟨0,rfl,by omega,hB,rf,ro,rk,ry,rm⟩
 case round =>
  clear hB rf ro rk ry rm;obtain ⟨i,rfl,hin,hB,rf,ro,rk,ry,rm⟩:=hrel;have sf:=RF5 rf;have so:=RFz4 ro;have sk:=RF1 rk;have sm:=RFz2 rm;have sy:=RFz2 ry;rcases Nat.lt_or_ge i n with hlt | hge
  ·have hlt':i<f.t.length:=by rw [HN.out];exact hlt
   obtain ⟨k,hk,hq9,KF,KM,KA⟩:=HK.out i hlt;clear hq9;have hk':k<vs.length:=by rw [HMM.out];exact hk
   have hiI:(i:Int)<(n:Int):=by omega
   have hkI:(k:Int)<(m:Int):=by omega
   have hk0:(0:Int)≤(k:Int):=by omega
   obtain ⟨t,ht⟩:∃ t,t=trD f.t i:=⟨_,rfl⟩
   obtain ⟨v,hv⟩:∃ v,v=trD vs k:=⟨_,rfl⟩
   rw [← ht] at KF;rw [← ht,← hv] at KM KA;obtain ⟨gf,gcur,rfl,rgf,g0,g1,g2⟩:=TAt.at (UAt.below HPf.out hB) hlt';rw [← ht] at g0 g1 g2;clear ht;have Fgf:∀ X,Row X gf (.cells gcur 55)→(gf<X.heap.size∧X.cell? ⟨gf,i * 3,none⟩=some (.int .i64 (t.s:Int))∧X.cell? ⟨gf,i * 3+1,none⟩=some (.string (S t.c.num))∧X.cell? ⟨gf,i * 3+2,none⟩=some (.string (S (t.c.den:Int)))):=fun X h=>⟨h.1,Row.cell_at h _ g0,Row.cell_at h _ g1,Row.cell_at h _ g2⟩
   have sgf:=Fgf _ rgf;obtain ⟨gv,kcur,rfl,rgv,k0,k1,k2⟩:=TAt.at (UAt.below HPv.out hB) hk';rw [← hv] at k0 k1 k2;clear hv;have Fgv:∀ X,Row X gv (.cells kcur 55)→(gv<X.heap.size∧X.cell? ⟨gv,k * 3,none⟩=some (.int .i64 (v.s:Int))∧X.cell? ⟨gv,k * 3+1,none⟩=some (.string (S v.c.num))∧X.cell? ⟨gv,k * 3+2,none⟩=some (.string (S (v.c.den:Int)))):=fun X h=>⟨h.1,Row.cell_at h _ k0,Row.cell_at h _ k1,Row.cell_at h _ k2⟩
   have sgv:=Fgv _ rgv;generalize t.c * v.c=tv at *;go_wp2_with fail;have df_t:w.heap.size<wr.heap.size:=by omega
   have do_t:w.heap.size+1<wr.heap.size:=by omega
   have dk_t:W3.heap.size<wr.heap.size:=by omega
   have dm_t:W3.heap.size+1<wr.heap.size:=by omega
   have dy_t:W5.heap.size<wr.heap.size:=by omega
   have dgf_t:gf<wr.heap.size:=by omega
   have dgv_t:gv<wr.heap.size:=by omega
   have d0_t:w.heap.size≤wr.heap.size:=by have:=hB.size;omega
   have sB:=hB.size;refine world_cut (fun X=>Below w.heap.size w X∧Row X w.heap.size (oF f.c f.r (some ⟨gf,0,none⟩) n cq)∧Row X (w.heap.size+1) oI0∧Row X W3.heap.size (.cells #[.bool false] 118)∧Row X (W3.heap.size+1) (oR (mid i))∧Row X W5.heap.size (oR z)∧Row X gf (.cells gcur 55)∧Row X gv (.cells kcur 55)∧Row X wr.heap.size (oT (t.s:Int) t.c)) ⟨BW,RW8,RW8,RW8,RW8,RW8,RW8,RW8,RW8⟩ ?_;clear rf sf ro so rk sk rm sm ry sy rgf sgf rgv sgv hB sB;rintro V7 ⟨hB,rf,ro,rk,rm,ry,rgf,rgv,rt⟩;have sf:=RF5 rf;have so:=RFz4 ro;have sk:=RF1 rk;have sm:=RFz2 rm;have sy:=RFz2 ry;have sgf:=Fgf _ rgf;have sgv:=Fgv _ rgv;have st:=RFz3 rt;refine (KF _ (UAt.below HPv.out hB)).mono ?_;rintro e W8 ⟨rfl,h1⟩;have stp:=St8 hB h1 rf ro rk rm ry rgf rgv rt;clear hB h1 rf sf ro so rk sk rm sm ry sy rgf sgf rgv sgv rt st;obtain ⟨hB,rf,ro,rk,rm,ry,rgf,rgv,rt⟩:=stp;have sf:=RF5 rf;have so:=RFz4 ro;have sk:=RF1 rk;have sm:=RFz2 rm;have sy:=RFz2 ry;have sgf:=Fgf _ rgf;have sgv:=Fgv _ rgv;have st:=RFz3 rt;go_upto_region 14 with fail;go_wp2_with fail;refine wp_region_items3 12 [.val (.pointer (some ⟨W3.heap.size,0,none⟩)),.val (.agg #[.string (S (mid i).num),.string (S ((mid i).den:Int))]),.val (.pointer (some ⟨W3.heap.size,0,none⟩)),.val (.pointer (some ⟨wr.heap.size,1,none⟩)),.val (.agg #[.string (S t.c.num),.string (S (t.c.den:Int))]),.val (.slice (some ⟨gv,0,none⟩) m cv),.val (.int .i64 (k:Int)),.val (.pointer (some ⟨gv,k * 3,none⟩)),.val (.pointer (some ⟨gv,k * 3+1,none⟩)),.val (.agg #[.string (S v.c.num),.string (S (v.c.den:Int))]),.val (.agg #[.string (S tv.num),.string (S (tv.den:Int))]),.val (.agg #[.string (S (mid (i+1)).num),.string (S ((mid (i+1)).den:Int))])] [] (by kernel_rfl) (by kernel_rfl) rfl trivial (allItems.cons qi0 (allItems.cons (qi1 fun X h=>RFz2 (Row.below rm h)) (allItems.cons qi0 (allItems.cons qi0 (allItems.cons (qi1 fun X h=>RFz3 (Row.below rt h)) (allItems.cons qi0 (allItems.cons qi0 (allItems.cons (qif hkI) (allItems.cons qi0 (allItems.cons (qi1 fun X h=>Fgv X (Row.below rgv h)) (allItems.cons (qi2 fun X h=>KM W3.heap.size X) (allItems.cons (qi2 fun X h=>KA W3.heap.size X) trivial)))))))))))) ?_
   rintro W h1;have stp:=St8 hB h1 rf ro rk rm ry rgf rgv rt;clear hB h1 rf sf ro so rk sk rm sm ry sy rgf sgf rgv sgv rt st;obtain ⟨hB,rf,ro,rk,rm,ry,rgf,rgv,rt⟩:=stp;have sf:=RF5 rf;have so:=RFz4 ro;have sk:=RF1 rk;have sm:=RFz2 rm;have sy:=RFz2 ry;have sgf:=Fgf _ rgf;have sgv:=Fgv _ rgv;have st:=RFz3 rt;simp only [setItems,List.setIfInBounds_toArray,List.set_cons_succ,List.set_cons_zero,List.take_succ_cons,List.take_zero,List.drop_succ_cons,List.drop_zero];intro _;go_wp2;go_roundw
   case rel=>exact ⟨i+1,by go_num,by omega,BW,RW8,RW8,RW8,RW8,RW8⟩
   case measure=>simp [RowKit.intOf];omega
  ·obtain rfl:n=i:=by omega
   clear sf so sk sm sy;have sf:=RF5 rf;have so:=RFz4 ro;have sk:=RF1 rk;have sm:=RFz2 rm;have sy:=RFz2 ry;go_wp2_with fail;refine wp_region_items3 10 [.val (.pointer (some ⟨W3.heap.size,0,none⟩)),.val (.agg #[.string (S (mid n).num),.string (S ((mid n).den:Int))]),.val (.pointer (some ⟨W3.heap.size,0,none⟩)),.val (.agg #[.string (S z.num),.string (S (z.den:Int))]),.val (.pointer (some ⟨w.heap.size,3,none⟩)),.val (.agg #[.string (S f.r.num),.string (S (f.r.den:Int))]),.val (.agg #[.string (S zr.num),.string (S (zr.den:Int))]),.val (.tuple #[.agg #[.string (S xl.num),.string (S (xl.den:Int)),.string (S xh.num),.string (S (xh.den:Int))],.int .i64 0]),.val (.agg #[.string (S xl.num),.string (S (xl.den:Int)),.string (S xh.num),.string (S (xh.den:Int))]),.val (.int .i64 0)] [] (by kernel_rfl) (by kernel_rfl) rfl trivial (allItems.cons qi0 (allItems.cons (qi1 fun X h=>RFz2 (Row.below rm h)) (allItems.cons qi0 (allItems.cons (qi1 fun X h=>RFz2 (Row.below ry h)) (allItems.cons qi0 (allItems.cons (qi1 fun X h=>RF5 (Row.below rf h)) (allItems.cons (qi2 fun X h=>MR W3.heap.size X) (allItems.cons (qi2 fun X h=>MI W3.heap.size X (Row.below rk h)) (allItems.cons qi0 (allItems.cons qi0 trivial)))))))))) ?_;rintro W h1;have stp:=St5 hB h1 rf ro rk rm ry;clear hB h1 rf sf ro so rk sk rm sm ry sy;obtain ⟨hB,rf,ro,rk,rm,ry⟩:=stp;have sf:=RF5 rf;have so:=RFz4 ro;have sk:=RF1 rk;have sm:=RFz2 rm;have sy:=RFz2 ry;simp only [setItems,List.setIfInBounds_toArray,List.set_cons_succ,List.set_cons_zero,List.take_succ_cons,List.take_zero,List.drop_succ_cons,List.drop_zero]
   intro _;go_wp2_with fail;have sB:=hB.size;refine post_cut (fun X=>Below w.heap.size w X∧Row X (w.heap.size+1) (oI xl xh)) ⟨BW,RW8⟩ ?_;clear rf sf ro so rk sk rm sm ry sy hB sB;rintro V7 ⟨hB,ro⟩;have so:=RFz4 ro;refine bodyPost_ret (v := .tuple #[.agg #[.string (S xl.num),.string (S (xl.den:Int)),.string (S xh.num),.string (S (xh.den:Int))],.int .i64 0]) ?res rfl ⟨rfl,hB⟩
   case res=>simp [results,Tryz.results32, go_sem,so]
theorem lcan {j:Nat} {f:Frm} {vs:List Trm} (h:At8F j f vs) (al:AllIn vs f.t) (hv:ValsOk vs) (ho:f.Ok) (hd:FDig 200 f) {j9:Nat} (hj9:j9≤40) (di:IDig j9 (atI f vs)) (part:Int) (hpart:IsInt part) (pf:Option Addr) (cq:Nat) (pv:Option Addr) (cv:Nat) (w:World) (hpf:TAt 55 w pf f.t) (hpv:TAt 55 w pv vs):Calls Tryz.prog 7 #[FV f pf cq,.slice pv vs.length cv,.int .i64 part] w (QSome (fun r=>QDig (3 * j9+5) r∧(atI f vs).Has r) w):=by
 have hB:Below w.heap.size w w:=Below.refl _ _;have HPf:=Lib.hid hpf;have HPv:=Lib.hid hpv;have MA:=fun W (h1:TAt 55 W pf f.t) (h2:TAt 55 W pv vs)=>r8at h al hv ho hd pf cq pv cv W h1 h2
 have MI:=fun W=>rinside (atI f vs) j9 di hj9 (at_ok ho.rest) part hpart W
 unfold QSome;unfold QSome at MI;unfold IvOk at MA;unfold I at *;generalize atI f vs=a at *;unfold FV Q at *;clear hpf hpv h al hv ho hd di;go_enter Tryz.func7, Tryz.ntmps7;go_wp2_with fail;have d0_o:w.heap.size≤w.heap.size+1:=by have:=hB.size;omega
 have sB:=hB.size;refine world_cut (fun X=>Below w.heap.size w X∧Row X (w.heap.size+1) oR0) ⟨BW,RW8⟩ ?_;clear hB sB;rintro V1 ⟨hB,ro⟩;have so:=RFz2 ro;refine (MA _ (UAt.below HPf.out hB) (UAt.below HPv.out hB)).mono ?_;rintro e W2 ⟨rfl,h1⟩;have stp:=St1 hB h1 ro;clear hB h1 ro so;obtain ⟨hB,ro⟩:=stp;have so:=RFz2 ro;go_wp2_with fail;have sB:=hB.size;refine world_cut (kq1 hB ro) ⟨BW,RW8⟩ ?_;unfold kq1;clear ro so hB sB;rintro V3 ⟨hB,ro⟩;have so:=RFz2 ro;refine (MI _).mono ?_;rintro e W4 ⟨q,hq,rfl,h1⟩;have stp:=St1 hB h1 ro;clear hB h1 ro so;obtain ⟨hB,ro⟩:=stp;have so:=RFz2 ro;go_wp2_with fail;have sB:=hB.size;refine post_cut (fun X=>Below w.heap.size w X∧Row X (w.heap.size+1) (oR q)) ⟨BW,RW8⟩ ?_;clear ro so hB sB;rintro V5 ⟨hB,ro⟩;have so:=RFz2 ro;refine bodyPost_ret (v := .agg #[.string (S q.num),.string (S (q.den:Int))]) ?res rfl ⟨q,hq,rfl,hB⟩
 case res=>simp [results,Tryz.results7, go_sem,so]
end Go.Proofs.YtdikaoahgleffaaGreatDoor
