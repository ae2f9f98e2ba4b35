/-
 Affine, plain: what a form is at given values of all its sources.; Affine, plain: what a form can be, given values of all sources; sums, products, lines.; Affine, plain: the root of a form: nothing is too large, and it can be the root.
-/
import Derived.Test.YtjpkfjmmmmfeeaaGreatDoorKAFits
import Derived.Test.YtjpkfjmmmmfeeaaGreatDoorKExtra0
import Derived.Test.YtjpkfjmmmmfeeaaGreatDoorKExtra1
namespace Go.Proofs.YtjpkfjmmmmfeeaaGreatDoor
open Go Go.Lib
/-- The sum over values: coefficients by values. -/
def dot (l vs:List Trm):Nat→Rat
 | 0=>0
 | k+1=>dot l vs k+cf l (trD vs k).s * (trD vs k).c
theorem cf_snoc {l:List Trm} {t:Trm} (h:∀ p,p ∈ l→p.s≠t.s) (id:Nat):cf (l ++ [t]) id=cf l id+(if t.s=id then t.c else 0):=by
 induction l with
 | nil=>rw [List.nil_append,cf_cons,cf_nil,Rat.zero_add]
 | cons x l ih =>
  rw [List.cons_append,cf_cons,cf_cons,ih (fun p hp=>h p (List.mem_cons_of_mem _ hp))]
  split
  ·rename_i he
   have:=h x (List.mem_cons_self ..)
   rw [if_neg (by omega),Rat.add_zero]
  ·rfl
theorem dot_snoc {l vs:List Trm} {t:Trm} (h:∀ p,p ∈ l→p.s≠t.s) (hv:SrcOk vs):∀ k,k≤vs.length→dot (l ++ [t]) vs k=dot l vs k+t.c * cf (vs.take k) t.s
 | 0,_=>by unfold dot;rw [List.take_zero,cf_nil];grind
 | k+1,hk=>by
  unfold dot
  rw [dot_snoc h hv k (by omega),cf_snoc h,take_trD (by omega),cf_snoc (t:=trD vs k) (fun p hp e => ?_)]
  ·by_cases e:t.s=(trD vs k).s
   ·rw [if_pos e,if_pos e.symm];grind
   ·rw [if_neg e,if_neg (fun h=>e h.symm)];grind
  ·obtain ⟨i,hi,rfl⟩:=List.getElem_of_mem hp
   rw [List.length_take] at hi
   rw [List.getElem_take,← trD_get (by omega)] at e
   have:=hv.lt (show i<k by omega) (by omega)
   omega
theorem look_cf {vs:List Trm} {id:Nat} {v:Rat} (h:look vs id=some v):cf vs id=v:=by unfold cf;rw [h];rfl
/-- Where all sources have values. -/
def AllIn (vs l:List Trm):Prop:=∀ p,p ∈ l→∃ v,look vs p.s=some v
theorem mid_dot {vs l:List Trm} (c:Rat) (hl:SrcOk l) (hv:SrcOk vs) (ha:AllIn vs l):∀ k,k≤l.length→midTo vs c l k=c+dot (l.take k) vs vs.length
 | 0,_=>by
  have h0:∀ n,dot [] vs n=0:=fun n=>by induction n with
   | zero=>rfl
   | succ n ih=>unfold dot;rw [ih,cf_nil];grind
  unfold midTo;rw [List.take_zero,h0,Rat.add_zero]
 | k+1,hk=>by
  obtain ⟨v,e⟩:=ha _ (trD_mem (show k<l.length by omega))
  rw [mid_some e,mid_dot c hl hv ha k (by omega),take_trD (by omega),dot_snoc (fun p hp e => ?_) hv _ (Nat.le_refl _),List.take_length,look_cf e]
  ·grind
  ·obtain ⟨i,hi,rfl⟩:=List.getElem_of_mem hp
   rw [List.length_take] at hi
   rw [List.getElem_take,← trD_get (by omega)] at e
   have:=hl.lt (show i<k by omega) (by omega)
   omega
theorem mid_all {vs l:List Trm} (c:Rat) (hl:SrcOk l) (hv:SrcOk vs) (ha:AllIn vs l):midTo vs c l l.length=c+dot l vs vs.length:=by
 rw [mid_dot c hl hv ha _ (Nat.le_refl _),List.take_length]
theorem others_all {vs l:List Trm} (ha:AllIn vs l):others vs l=[]:=by
 unfold others
 refine List.filter_eq_nil_iff.2 fun p hp => ?_
 obtain ⟨v,e⟩:=ha p hp
 rw [e];simp
theorem at_all {f:Frm} {vs:List Trm} (hl:SrcOk f.t) (hv:SrcOk vs) (ha:AllIn vs f.t):atI f vs=⟨f.c+dot f.t vs vs.length - f.r,f.c+dot f.t vs vs.length+f.r⟩:=by
 have:rad ⟨0,[],f.r⟩=f.r:=by unfold rad;show (0:Rat)+f.r=f.r;grind
 unfold atI
 rw [mid_all f.c hl hv ha,others_all ha,this]
theorem dot_lin {p q:Rat} {a b s vs:List Trm} (h:∀ id,cf s id=p * cf a id+q * cf b id):∀ k,dot s vs k=p * dot a vs k+q * dot b vs k
 | 0=>by unfold dot;grind
 | k+1=>by unfold dot;rw [dot_lin h k,h];grind
/-- What the values make of the terms is at most their radius. -/
theorem dot_rad {vs l:List Trm} (hl:SrcOk l) (hv:SrcOk vs) (ha:AllIn vs l) (hu:Unit1 vs):dot l vs vs.length≤radTo l l.length ∧ -(radTo l l.length)≤dot l vs vs.length:=by
 have h:∀ k,k≤l.length→midTo vs 0 l k≤radTo l k ∧ -(radTo l k)≤midTo vs 0 l k:=by
  intro k
  induction k with
  | zero=>intro _;show (0:Rat)≤0 ∧ -(0:Rat)≤0;grind
  | succ k ih =>
   intro hk
   obtain ⟨i1,i2⟩:=ih (by omega)
   obtain ⟨v,e⟩:=ha _ (trD_mem (show k<l.length by omega))
   obtain ⟨u1,u2⟩:=look_unit hu e
   obtain ⟨m1,m2⟩:=abs_mul_unit (c:=(trD l k).c) u1 u2
   rw [mid_some e]
   show _≤radTo l k+absQ (trD l k).c ∧ -(radTo l k+absQ (trD l k).c)≤_
   grind
 have:=h l.length (Nat.le_refl _)
 rw [mid_all 0 hl hv ha] at this
 grind
theorem vTo_all {x:Nat→Int} {l:List Trm} (h:∀ p,p ∈ l→1≤p.s∧p.s≤6):AllIn (vTo x 6) l:=fun p hp=>by
 obtain ⟨h1,h2⟩:=h p hp
 have hlen:p.s - 1<(vTo x 6).length:=by rw [vTo_len];omega
 have e:=look_at (vTo_src x (k:=6) (by omega)) hlen
 have e2:(trD (vTo x 6) (p.s - 1)).s=p.s:=by
  rw [trD_get hlen]
  simp [vTo]
  omega
 rw [e2] at e
 exact ⟨_,e⟩
end Go.Proofs.YtjpkfjmmmmfeeaaGreatDoor
namespace Go.Proofs.YtjpkfjmmmmfeeaaGreatDoor
open Go Go.Lib
theorem absQ_mul_le {p e r:Rat} (h1 : -r≤e) (h2:e≤r):p * e≤absQ p * r ∧ -(absQ p * r)≤p * e:=by
 by_cases h:p<0
 ·rw [absQ_neg h]
  have a:=Rat.mul_le_mul_of_nonneg_left h1 (show (0:Rat)≤0 - p by grind)
  have b:=Rat.mul_le_mul_of_nonneg_left h2 (show (0:Rat)≤0 - p by grind)
  constructor <;> grind
 ·rw [absQ_pos (by grind)]
  have a:=Rat.mul_le_mul_of_nonneg_left h1 (show (0:Rat)≤p by grind)
  have b:=Rat.mul_le_mul_of_nonneg_left h2 (show (0:Rat)≤p by grind)
  constructor <;> grind
/-- A form can be a fraction, where the values make x of its terms. -/
def CanBe (f:Frm) (x v:Rat):Prop:=f.c+x - f.r≤v∧v≤f.c+x+f.r
theorem at_can {f:Frm} {vs:List Trm} (hl:SrcOk f.t) (hv:SrcOk vs) (ha:AllIn vs f.t) (v:Rat):(atI f vs).Has v ↔ CanBe f (dot f.t vs vs.length) v:=by
 rw [at_all hl hv ha];exact Iff.rfl
theorem CanBe.line {a:Frm} {x v g s u w:Rat} (ha:CanBe a x v) (h1:u≤g - s * v) (h2:g - s * v≤w):CanBe (lineF s u w a) (s * x+0 * 0) g:=by
 obtain ⟨a1,a2⟩:=ha
 obtain ⟨m1,m2⟩:=absQ_mul_le (p:=s) (e:=v - (a.c+x)) (r:=a.r) (by grind) (by grind)
 unfold CanBe lineF combF constF
 simp only [absQ_zero]
 constructor <;> grind
/-! The lines of the root, and of the inverse. -/
theorem sqrt_line {p q n:Rat} (hs:0<p+q) (h1:p≤n) (h2:n≤q):p * q / (p+q)≤n - 1 / (p+q) * (n * n)∧n - 1 / (p+q) * (n * n)≤(p+q) / 4:=by
 have hi:0<(p+q)⁻¹:=Rat.inv_pos.2 hs
 have e:(p+q) * (p+q)⁻¹=1:=Rat.mul_inv_cancel _ (by grind)
 have a:0≤(n - p) * (q - n) * (p+q)⁻¹:=Rat.mul_nonneg (Rat.mul_nonneg (by grind) (by grind)) (Rat.le_of_lt hi)
 have b:0≤(p+q - 2 * n) * (p+q - 2 * n) * (p+q)⁻¹:=Rat.mul_nonneg (by
  by_cases h:0≤p+q - 2 * n
  ·exact Rat.mul_nonneg h h
  ·have:=Rat.mul_nonneg (show 0 ≤ -(p+q - 2 * n) by grind) (show 0 ≤ -(p+q - 2 * n) by grind);grind) (Rat.le_of_lt hi)
 rw [Rat.div_def,Rat.div_def,Rat.div_def]
 generalize (p+q)⁻¹=i at *
 have k1:n - i * (n * n) - p * q * i=(n - p) * (q - n) * i:=by grind
 have k2:4 * (n - i * (n * n))=(p+q) - (p+q - 2 * n) * (p+q - 2 * n) * i:=by grind
 rw [← k1] at a
 generalize (p+q - 2 * n) * (p+q - 2 * n) * i=b' at *
 rw [Rat.one_mul]
 generalize n - i * (n * n)=y at *
 constructor <;> grind
end Go.Proofs.YtjpkfjmmmmfeeaaGreatDoor
namespace Go.Proofs.YtjpkfjmmmmfeeaaGreatDoor
open Go Go.Lib
theorem RootLo.gr {j p:Nat} {r x:Rat} (h:QDig j r) (hx:RootLo r (TT p) x):Gr (10 ^ p) (10 ^ (j+p+p)) x:=by
 obtain ⟨m,hm,rfl⟩:=hx
 obtain ⟨h0,h1⟩:=root_le hm
 have hd:Dig (j+p+p) m:=(rootQ_dig h).of_le (by omega)
 exact Gr.ofInt (Nat.pow_pos (by decide)) (Nat.le_of_lt hd)
theorem RootHi.gr {j p:Nat} {r x:Rat} (h:QDig j r) (hx:RootHi r (TT p) x):Gr (10 ^ p) (10 ^ (j+p+p)) x:=by
 obtain ⟨m,hm,hx⟩:=hx
 obtain ⟨h0,h1⟩:=root_le hm
 have hd:Dig (j+p+p) m:=(rootQ_dig h).of_le (by omega)
 rcases hx with ⟨_,rfl⟩ | ⟨_,rfl⟩
 ·exact Gr.ofInt (Nat.pow_pos (by decide)) (Nat.le_of_lt hd)
 ·refine Gr.ofInt (Nat.pow_pos (by decide)) ?_
  unfold Dig at hd
  omega
theorem Gr.inv {d m:Nat} {q:Rat} (h:Gr d m q) (hq:0<q) (hd:0<d):∃ z:Nat,0<z∧z≤m∧Gr z d (1 / q):=by
 obtain ⟨z,h1,h2⟩:=h
 have hd':(0:Rat)<((d:Int):Rat):=Rat.intCast_pos.2 (by omega)
 have hz:0<z:=by
  have:=Rat.mul_pos hq hd'
  rw [h1] at this
  exact Rat.intCast_pos.1 this
 refine ⟨z.natAbs,by omega,h2,(d:Int),?_,by omega⟩
 rw [show ((z.natAbs:Nat):Int)=z by omega,← h1,Rat.div_def]
 have:=Rat.mul_inv_cancel q (by grind)
 grind
theorem gr_half:Gr 2 1 (1 / 2):=⟨1,by decide +kernel,by decide⟩
theorem gr_quarter:Gr 4 1 (1 / 4):=⟨1,by decide +kernel,by decide⟩
theorem exists_rootN (n:Nat):∃ m:Nat,m * m≤n∧n<(m+1) * (m+1):=by
 induction n with
 | zero=>exact ⟨0,by decide,by decide⟩
 | succ n ih =>
  obtain ⟨m,h1,h2⟩:=ih
  by_cases h:n+1<(m+1) * (m+1)
  ·exact ⟨m,by omega,h⟩
  ·have e:(m+1+1) * (m+1+1)=(m+1) * (m+1)+2 * m+3:=by grind
   exact ⟨m+1,by omega,by omega⟩
theorem exists_rootI8 {q:Int} (h:0≤q):∃ m,IsRootI q m:=by
 obtain ⟨m,h1,h2⟩:=exists_rootN q.toNat
 refine ⟨(m:Int),by omega,?_,?_⟩
 ·have:((m * m:Nat):Int)≤(q.toNat:Int):=by exact_mod_cast h1
  rw [Int.natCast_mul] at this
  omega
 ·have:(q.toNat:Int)<(((m+1) * (m+1):Nat):Int):=by exact_mod_cast h2
  rw [Int.natCast_mul] at this
  have e:((m+1:Nat):Int)=(m:Int)+1:=by omega
  rw [e] at this
  omega
theorem rootQ_nn8 {r:Rat} {T:Int} (hT:0<T) (h:0≤r):0≤rootQ r T:=by
 unfold rootQ
 exact Int.ediv_nonneg (Int.mul_nonneg (Int.mul_nonneg (Rat.num_nonneg.2 h) (Int.le_of_lt hT)) (Int.le_of_lt hT)) (Int.le_of_lt (den_pos r))
theorem exists_sqrtI {a:Iv} (p:Nat) (h0:0≤a.lo) (ok:a.Ok):∃ s,SqrtI a (TT p) s:=by
 obtain ⟨m,h1⟩:=exists_rootI8 (rootQ_nn8 (TT_pos p) h0)
 obtain ⟨n,h2⟩:=exists_rootI8 (rootQ_nn8 (TT_pos p) (Rat.le_trans h0 ok))
 by_cases h:ExactR a.hi (TT p) n
 ·exact ⟨⟨_,_⟩,⟨m,h1,rfl⟩,⟨n,h2,.inl ⟨h,rfl⟩⟩⟩
 ·exact ⟨⟨_,_⟩,⟨m,h1,rfl⟩,⟨n,h2,.inr ⟨h,rfl⟩⟩⟩
theorem sqrt_all {p:Nat} {s:Iv} {a:Frm} (hp:p≤12) (ha:FGr 32 20000 a) (hl:Gr (10 ^ p) (10 ^ 33) s.lo) (hh:Gr (10 ^ p) (10 ^ 33) s.hi) (hs:0<s.lo+s.hi) (few:a.t.length≤5) (sa:SrcOk a.t) (dI:IDig 9 (rangeI a)) (okI:(rangeI a).Ok) (pos:0≤(rangeI a).lo) (root:SqrtI (rangeI a) (TT p) s) (nz:s.hi≠0) :
  SqrtF 9 p s a∧∃ D:Nat,0<D∧D<10 ^ 80∧FGr D (10 ^ 84) (sqrtF s a):=by
 obtain ⟨Z,z0,z1,gs⟩:=(hl.add hh).inv hs (Nat.pow_pos (by decide))
 have hT0:0<10 ^ p:=Nat.pow_pos (by decide)
 have hT:10 ^ p≤10 ^ 12:=Nat.pow_le_pow_right (by decide) hp
 generalize 10 ^ p=T at *
 have hTZ:T * Z≤10 ^ 46:=Nat.le_trans (Nat.mul_le_mul hT z1) (by decide +kernel)
 have hTT:T * T≤10 ^ 24:=Nat.le_trans (Nat.mul_le_mul hT hT) (by decide +kernel)
 have gu:Gr (Z * (T * T) * 4) (10 ^ 80) (s.lo * s.hi * (1 / (s.lo+s.hi))):=(((hl.mul hh).mul gs).fine 4).cast (by grind) (Nat.le_trans (Nat.mul_le_mul_right 4 (Nat.mul_le_mul_left _ hT)) (by decide +kernel))
 have gv:Gr (Z * (T * T) * 4) (10 ^ 80) ((s.lo+s.hi) * (1 / 4)):=(((hl.add hh).mul gr_quarter).fine (T * Z)).cast (by grind) (Nat.le_trans (Nat.mul_le_mul_left _ hTZ) (by decide +kernel))
 have guv:Gr (Z * (T * T) * 64) (10 ^ 82) ((s.lo * s.hi * (1 / (s.lo+s.hi))+(s.lo+s.hi) * (1 / 4)) * (1 / 2)):=(((gu.add gv).mul gr_half).fine 8).cast (by grind) (by decide +kernel)
 have gvu:Gr (Z * (T * T) * 64) (10 ^ 82) (((s.lo+s.hi) * (1 / 4) - s.lo * s.hi * (1 / (s.lo+s.hi))) * (1 / 2)):=(((gv.sub gu).mul gr_half).fine 8).cast (by grind) (by decide +kernel)
 have gx:∀ {x:Rat},Gr 32 20000 x→Gr (Z * (T * T) * 64) (10 ^ 82) (1 / (s.lo+s.hi) * x):=fun hx=>((gs.mul hx).fine (T * T * 2)).cast (by grind) (Nat.le_trans (Nat.mul_le_mul (Nat.mul_le_mul_right _ hT) (Nat.mul_le_mul_right 2 hTT)) (by decide +kernel))
 have gr:∀ {x:Rat},Gr 32 20000 x→Gr (Z * (T * T) * 64) (10 ^ 82) (absQ (1 / (s.lo+s.hi)) * x):=fun hx=>((gs.abs.mul hx).fine (T * T * 2)).cast (by grind) (Nat.le_trans (Nat.mul_le_mul (Nat.mul_le_mul_right _ hT) (Nat.mul_le_mul_right 2 hTT)) (by decide +kernel))
 have dz:0<Z * (T * T) * 64:=Nat.mul_pos (Nat.mul_pos z0 (Nat.mul_pos hT0 hT0)) (by decide)
 have dl:Z * (T * T) * 64≤10 ^ 60:=Nat.le_trans (Nat.mul_le_mul_right 64 (Nat.mul_le_mul z1 hTT)) (by decide +kernel)
 have dl4:Z * (T * T) * 4<10 ^ 84:=Nat.lt_of_le_of_lt (Nat.le_trans (Nat.mul_le_mul_left _ (by decide)) dl) (by decide +kernel)
 have dz4:0<Z * (T * T) * 4:=by omega
 have dl':Z * (T * T) * 64<10 ^ 84:=Nat.lt_of_le_of_lt dl (by decide +kernel)
 have qs:QDig 84 (1 / (s.lo+s.hi)):=gs.dig z0 (Nat.lt_of_le_of_lt z1 (by decide +kernel)) (Nat.lt_of_le_of_lt hT (by decide +kernel))
 have eu:s.lo * s.hi / (s.lo+s.hi)=s.lo * s.hi * (1 / (s.lo+s.hi)):=by rw [Rat.div_def,Rat.div_def];grind
 have ev:(s.lo+s.hi) / 4=(s.lo+s.hi) * (1 / 4):=by rw [Rat.div_def,Rat.div_def];grind
 have qu:QDig 84 (s.lo * s.hi / (s.lo+s.hi)):=by rw [eu];exact gu.dig dz4 dl4 (by decide +kernel)
 have qv:QDig 84 ((s.lo+s.hi) / 4):=by rw [ev];exact gv.dig dz4 dl4 (by decide +kernel)
 have quv:QDig 84 (s.lo * s.hi / (s.lo+s.hi)+(s.lo+s.hi) / 4):=by rw [eu,ev];exact (gu.add gv).dig dz4 dl4 (by decide +kernel)
 have qvu:QDig 84 ((s.lo+s.hi) / 4 - s.lo * s.hi / (s.lo+s.hi)):=by rw [eu,ev];exact (gv.sub gu).dig dz4 dl4 (by decide +kernel)
 have quv2:QDig 84 ((s.lo * s.hi / (s.lo+s.hi)+(s.lo+s.hi) / 4) / 2):=by rw [Rat.div_def _ 2,eu,ev,show (2:Rat)⁻¹=1 / 2 by decide +kernel];exact guv.dig dz dl' (by decide +kernel)
 have qvu2:QDig 84 (((s.lo+s.hi) / 4 - s.lo * s.hi / (s.lo+s.hi)) / 2):=by rw [Rat.div_def _ 2,eu,ev,show (2:Rat)⁻¹=1 / 2 by decide +kernel];exact gvu.dig dz dl' (by decide +kernel)
 have hTl:T<10 ^ 84:=Nat.lt_of_le_of_lt hT (by decide +kernel)
 have ql:QDig 34 s.lo:=hl.dig hT0 (Nat.lt_of_le_of_lt hT (by decide +kernel)) (by decide +kernel)
 have qh:QDig 34 s.hi:=hh.dig hT0 (Nat.lt_of_le_of_lt hT (by decide +kernel)) (by decide +kernel)
 have qS:QDig 34 (s.lo+s.hi):=(hl.add hh).dig hT0 (Nat.lt_of_le_of_lt hT (by decide +kernel)) (by decide +kernel)
 have q4:QDig 9 4:=qd (by decide +kernel)
 have q2:QDig 9 2:=qd (by decide +kernel)
 have q0:QDig 9 0:=qd (by decide +kernel)
 have da:FDig 9 a:=ha.dig (by decide) (by decide +kernel) (by decide +kernel)
 have dk:FDig 9 (constF 0):=⟨q0,fun p hp=>(by cases hp),q0⟩
 have hlen:(lin (1 / (s.lo+s.hi)) 0 a.t (constF 0).t).length≤64:=Nat.le_trans (lin_ok sa SrcOk.nil).len (by show a.t.length+0≤64;omega)
 have sne:s.lo+s.hi≠0:=by grind
 have gcc:QDig 84 (combF (1 / (s.lo+s.hi)) 0 a (constF 0)).c:=by
  show QDig 84 (1 / (s.lo+s.hi) * a.c+0 * 0)
  rw [show 1 / (s.lo+s.hi) * a.c+0 * 0=1 / (s.lo+s.hi) * a.c by grind]
  exact (gx ha.c).dig dz dl' (by decide +kernel)
 have grr:QDig 84 (combF (1 / (s.lo+s.hi)) 0 a (constF 0)).r:=by
  show QDig 84 (absQ (1 / (s.lo+s.hi)) * a.r+absQ 0 * 0)
  rw [show absQ (1 / (s.lo+s.hi)) * a.r+absQ 0 * 0=absQ (1 / (s.lo+s.hi)) * a.r by grind]
  exact (gr ha.r).dig dz dl' (by decide +kernel)
 have hLine:LineF (1 / (s.lo+s.hi)) (s.lo * s.hi / (s.lo+s.hi)) ((s.lo+s.hi) / 4) a :=
  ⟨CombF.of qs (q0.mono (show 9≤84 by decide)) da dk (by decide) hlen,AF.of qu qv (by decide),DF.of quv q2 (by decide) (by decide +kernel),AF.of gcc quv2 (by decide),SF.of qv qu (by decide),DF.of qvu q2 (by decide) (by decide +kernel),AF.of grr qvu2 (by decide)⟩
 refine ⟨⟨RangeF.of ha (n:=6) (by omega) (by decide) (by decide +kernel) (by decide +kernel),by decide,by omega,by omega,dI,okI,pos,root,nz,qh.mono (by decide),AF.of ql qh (by decide),DF.of one_dig qS (by decide) sne,MF.of ql qh (by decide),DF.of (ql.mul qh) qS (by decide) sne,DF.of qS q4 (by decide) (by decide +kernel),hLine⟩,?_⟩
 refine ⟨Z * (T * T) * 64,Nat.mul_pos (Nat.mul_pos z0 (Nat.mul_pos hT0 hT0)) (by decide),Nat.lt_of_le_of_lt (Nat.mul_le_mul_right 64 (Nat.mul_le_mul z1 hTT)) (by decide +kernel),?_,?_,?_⟩
 ·have h1:=((gx ha.c).add guv).mono (show _≤10 ^ 84 by decide +kernel)
  have e1:(sqrtF s a).c=1 / (s.lo+s.hi) * a.c+(s.lo * s.hi * (1 / (s.lo+s.hi))+(s.lo+s.hi) * (1 / 4)) * (1 / 2):=by
   show 1 / (s.lo+s.hi) * a.c+0 * 0+(s.lo * s.hi / (s.lo+s.hi)+(s.lo+s.hi) / 4) / 2=_
   rw [eu,ev,Rat.div_def _ 2,show (2:Rat)⁻¹=1 / 2 by decide +kernel,Rat.mul_zero,Rat.add_zero]
  rw [e1];exact h1
 ·intro t ht
  have:t ∈ lin (1 / (s.lo+s.hi)) 0 a.t []:=ht
  exact (lin_gr (a.t.length+0) a.t [] (Nat.le_refl _) (fun x hx=>gx (ha.t x hx)) (fun y hy=>by cases hy) t this).mono (by decide +kernel)
 ·have h1:=((gr ha.r).add gvu).mono (show _≤10 ^ 84 by decide +kernel)
  have e1:(sqrtF s a).r=absQ (1 / (s.lo+s.hi)) * a.r+((s.lo+s.hi) * (1 / 4) - s.lo * s.hi * (1 / (s.lo+s.hi))) * (1 / 2):=by
   show absQ (1 / (s.lo+s.hi)) * a.r+absQ 0 * 0+((s.lo+s.hi) / 4 - s.lo * s.hi / (s.lo+s.hi)) / 2=_
   rw [eu,ev,Rat.div_def _ 2,show (2:Rat)⁻¹=1 / 2 by decide +kernel,Rat.mul_zero,Rat.add_zero]
  rw [e1];exact h1
end Go.Proofs.YtjpkfjmmmmfeeaaGreatDoor
