/-
 Affine, plain: at the forms, values and sources that integers determine nothing is too large. Affine, plain: what a form is at given values of all its sources. Affine, plain: what a form can be, given values of all sources; sums, products, lines. Affine, plain: forms with short fractions: what Round loses is within the Rest; nothing is too large.
-/
import Derived.Test.YtdikaoahgleffaaGreatDoorWAAt
import Derived.Test.YtdikaoahgleffaaGreatDoorWASame
namespace Go.Proofs.YtdikaoahgleffaaGreatDoor
open Go Go.Lib
theorem one_dig:QDig 9 1:=by unfold QDig Dig;decide +kernel
theorem mone_dig:QDig 9 (-1):=by unfold QDig Dig;decide +kernel
theorem gr_one:Gr 1 1 1:=⟨1,by decide +kernel,by decide⟩
theorem MulF.made {a b:Frm} (ha:FGr 4 80 a) (hb:FGr 4 80 b) (oa:a.Ok) (ob:b.Ok) (la:a.t.length≤5) (lb:b.t.length≤5):MulF a b:=by
 have da:FDig 9 a:=ha.dig (by decide) (by decide) (by decide);have db:FDig 9 b:=hb.dig (by decide) (by decide) (by decide);have ra:=rad_gr ha (n:=6) (by omega);have rb:=rad_gr hb (n:=6) (by omega);have e9:QDig 9 (rad a):=ra.dig (by decide) (by decide) (by decide);have f9:QDig 9 (rad b):=rb.dig (by decide) (by decide) (by decide);have s9:QDig 9 (absQ b.c * a.r+absQ a.c * b.r):=((hb.c.abs.mul ha.r).add (ha.c.abs.mul hb.r)).dig (by decide) (by decide) (by decide);have p9:QDig 9 (rad a * rad b):=(ra.mul rb).dig (by decide) (by decide) (by decide);exact ⟨LinF.of db.c da.c da db (by decide) (comb_len oa ob (by omega)),MF.of da.c db.c (by decide),RadF.of ha (n:=6) (by omega) (by decide) (by decide +kernel) (by decide +kernel),RadF.of hb (n:=6) (by omega) (by decide) (by decide +kernel) (by decide +kernel),MF.of e9 f9 (by decide),AF.of s9 p9 (by decide)⟩
theorem RangeF.made {f:Frm} (h:FGr 4 80 f) (lf:f.t.length≤5):RangeF f:=RangeF.of h (n:=6) (by omega) (by decide) (by decide +kernel) (by decide +kernel)
theorem midTo_gr {d m:Nat} {vs l:List Trm} {c:Rat} (hc:Gr d m c) (hl:∀ p,p ∈ l→Gr d m p.c) (hv:∀ p,p ∈ vs→Gr 8 8 p.c):∀ k,k≤l.length→Gr (d * 8) ((k+1) * (m * 8)) (midTo vs c l k)
 | 0,_=>(hc.fine 8).mono (by omega)
 | k+1,hk=>by
  have i1:=midTo_gr hc hl hv k (by omega)
  cases h:look vs (trD l k).s with
  | none=>rw [mid_none h];exact i1.mono (by rw [Nat.succ_mul (k+1)];omega)
  | some v =>
   rw [mid_some h];obtain ⟨p,hp, -,rfl⟩:=look_mem h;exact (i1.add ((hl _ (trD_mem (show k<l.length by omega))).mul (hv p hp))).mono (by rw [Nat.succ_mul (k+1)];omega)
theorem atF_of {d m n:Nat} {f:Frm} {vs:List Trm} (hf:FGr d m f) (hv:∀ p,p ∈ vs→Gr 8 8 p.c) (hn:f.t.length+1≤n) (hd:0<d) (h1:d * 8<10 ^ 98) (h2:n * (m * 8)<10 ^ 98):AtF f vs:=by
 have hp:∀ k,k≤f.t.length→(k+1) * (m * 8)<10 ^ 98:=fun k hk=>Nat.lt_of_le_of_lt (Nat.mul_le_mul_right _ (by omega)) h2
 have hm:∀ k,k≤f.t.length→QDig 98 (midTo vs f.c f.t k):=fun k hk=>(midTo_gr hf.c hf.t hv k hk).dig (by omega) h1 (hp k hk)
 have lo:(others vs f.t).length≤f.t.length:=List.length_filter_le _ _;have ho:FGr d m ⟨0,others vs f.t,f.r⟩:=⟨(Gr.zero d).mono (Nat.zero_le _),fun p hp=>hf.t p (List.mem_filter.1 hp).1,hf.r⟩
 have hnm:n * m≤n * (m * 8):=Nat.mul_le_mul_left _ (by omega);have hr:QDig 98 (rad ⟨0,others vs f.t,f.r⟩):=(rad_gr ho (n:=n) (show (others vs f.t).length+1≤n by omega)).dig hd (by omega) (by omega);have hm8:=hp 0 (Nat.zero_le _);refine ⟨fun k hk v h => ?_,fun k hk v h => ?_,RadF.of ho (n:=n) (show (others vs f.t).length+1≤n by omega) hd (Nat.lt_trans (show d<10 ^ 98 by omega) (by decide +kernel)) (Nat.lt_trans (show n * m<10 ^ 98 by omega) (by decide +kernel)),SF.of (hm _ (Nat.le_refl _)) hr (by decide),AF.of (hm _ (Nat.le_refl _)) hr (by decide)⟩
 ·obtain ⟨p,hp', -,rfl⟩:=look_mem h;exact MF.of (j:=98) (k:=98) ((hf.t _ (trD_mem hk)).dig hd (by omega) (by omega)) ((hv p hp').dig (by decide) (by decide +kernel) (by decide +kernel)) (by decide)
 ·obtain ⟨p,hp', -,rfl⟩:=look_mem h;exact AF.of (j:=98) (k:=98) (hm k (by omega)) (((hf.t _ (trD_mem hk)).mul (hv p hp')).dig (by omega) h1 (by omega)) (by decide)
theorem cf_gr {d m:Nat} {l:List Trm} (h:∀ p,p ∈ l→Gr d m p.c) (id:Nat):Gr d m (cf l id):=by
 unfold cf
 cases e:look l id with
 | none=>exact (Gr.zero d).mono (Nat.zero_le _)
 | some v=>obtain ⟨p,hp, -,rfl⟩:=look_mem e;exact h p hp
theorem covTo_gr {d m e s:Nat} {a b ss:List Trm} (ha:∀ p,p ∈ a→Gr d m p.c) (hb:∀ p,p ∈ b→Gr e s p.c) (hs:∀ p,p ∈ ss→Gr 8 8 p.c):∀ k,k≤ss.length→Gr (d * e * 8) (k * (m * s * 8)) (covTo a b ss k)
 | 0,_=>(Gr.zero _).mono (Nat.zero_le _)
 | k+1,hk=>by
  have i1:=covTo_gr ha hb hs k (by omega);exact (i1.add (((cf_gr ha _).mul (cf_gr hb _)).mul (hs _ (trD_mem (show k<ss.length by omega))))).mono (Nat.le_of_eq (Nat.succ_mul _ _).symm)
theorem CovF.of {d m e s:Nat} {a b ss:List Trm} (ha:∀ p,p ∈ a→Gr d m p.c) (hb:∀ p,p ∈ b→Gr e s p.c) (hs:∀ p,p ∈ ss→Gr 8 8 p.c) (ls:ss.length≤6) (hd:0<d) (he:0<e)
  (h1:d<10 ^ 9) (h2:m<10 ^ 9) (h3:e<10 ^ 9) (h4:s<10 ^ 9) (h5:d * e<10 ^ 9) (h6:m * s<10 ^ 9) (h7:d * e * 8<10 ^ 9) (h8:6 * (m * s * 8)<10 ^ 9):CovF a b ss:=by
 have hp:=Nat.mul_pos hd he;refine ⟨fun k hk=>MF.of (j:=9) (k:=9) ((cf_gr ha _).dig hd h1 h2) ((cf_gr hb _).dig he h3 h4) (by decide),fun k hk=>MF.of (j:=9) (k:=9) (((cf_gr ha _).mul (cf_gr hb _)).dig hp h5 h6) ((hs _ (trD_mem hk)).dig (by decide) (by decide) (by decide)) (by decide),fun k hk => ?_⟩;have h9:k * (m * s * 8)≤6 * (m * s * 8):=Nat.mul_le_mul_right _ (by omega);have h10:m * s * 8≤6 * (m * s * 8):=Nat.le_mul_of_pos_left _ (by decide);exact AF.of (j:=9) (k:=9) ((covTo_gr ha hb hs k (by omega)).dig (by omega) h7 (by omega)) ((((cf_gr ha _).mul (cf_gr hb _)).mul (hs _ (trD_mem hk))).dig (by omega) h7 (by omega)) (by decide)
/-! The values, the ends and the sources that integers determine. -/
theorem vTo_vals (x:Nat→Int) {k:Nat} (hk:k≤6):ValsOk (vTo x k):=⟨by rw [vTo_len];omega,vTo_src x (by omega),vTo_between x k,fun p hp=>(vTo_gr x k p hp).dig (by decide) (by decide +kernel) (by decide +kernel)⟩
theorem at_idig {f:Frm} {vs:List Trm} (h:AtF f vs):IDig 200 (atI f vs):=⟨h.lo.dig,h.hi.dig⟩
theorem range_idig {f:Frm} (h:RangeF f):IDig 200 (rangeI f):=⟨h.lo.dig,h.hi.dig⟩
theorem lin_six {p q:Rat} {a b:List Trm} (ha:SrcOk a) (hb:SrcOk b) (h1:∀ p,p ∈ a→p.s≤6) (h2:∀ p,p ∈ b→p.s≤6):∀ t,t ∈ lin p q a b→t.s≤6:=fun t ht=>by
 by_cases h:t.s≤6
 ·exact h
 ·exfalso;have e1:=cf_mem (lin_src ha hb) ht;rw [lin_cf ha hb,cf_none (fun u hu he=>h (by rw [← he];exact h1 u hu)),cf_none (fun u hu he=>h (by rw [← he];exact h2 u hu)),Rat.mul_zero,Rat.mul_zero,Rat.add_zero] at e1;exact lin_nz ha hb t ht e1.symm
theorem mForm_six (c r:Int) (x:Nat→Int):∀ p,p ∈ (mForm c r x).t→1≤p.s∧p.s≤6:=fun p hp=>⟨(mTo_mem x 6 p hp).1,(mTo_mem x 6 p hp).2.1⟩
end Go.Proofs.YtdikaoahgleffaaGreatDoor
namespace Go.Proofs.YtdikaoahgleffaaGreatDoor
open Go Go.Lib
def dot (l vs:List Trm):Nat→Rat
 | 0=>0
 | k+1=>dot l vs k+cf l (trD vs k).s * (trD vs k).c
theorem cf_snoc {l:List Trm} {t:Trm} (h:∀ p,p ∈ l→p.s≠t.s) (id:Nat):cf (l ++ [t]) id=cf l id+(if t.s=id then t.c else 0):=by
 induction l with
 | nil=>rw [List.nil_append,cf_cons,cf_nil,Rat.zero_add]
 | cons x l ih =>
  rw [List.cons_append,cf_cons,cf_cons,ih (fun p hp=>h p (List.mem_cons_of_mem _ hp))];split
  ·rename_i he;have:=h x (List.mem_cons_self ..);rw [if_neg (by omega),Rat.add_zero]
  ·rfl
theorem dot_snoc {l vs:List Trm} {t:Trm} (h:∀ p,p ∈ l→p.s≠t.s) (hv:SrcOk vs):∀ k,k≤vs.length→dot (l ++ [t]) vs k=dot l vs k+t.c * cf (vs.take k) t.s
 | 0,_=>by unfold dot;rw [List.take_zero,cf_nil];grind
 | k+1,hk=>by
  unfold dot;rw [dot_snoc h hv k (by omega),cf_snoc h,take_trD (by omega),cf_snoc (t:=trD vs k) (fun p hp e => ?_)]
  ·by_cases e:t.s=(trD vs k).s
   ·rw [if_pos e,if_pos e.symm];grind
   ·rw [if_neg e,if_neg (fun h=>e h.symm)];grind
  ·obtain ⟨i,hi,rfl⟩:=List.getElem_of_mem hp;rw [List.length_take] at hi;rw [List.getElem_take,← trD_get (by omega)] at e;have:=hv.lt (show i<k by omega) (by omega);omega
theorem look_cf {vs:List Trm} {id:Nat} {v:Rat} (h:look vs id=some v):cf vs id=v:=by unfold cf;rw [h];rfl
def AllIn (vs l:List Trm):Prop:=∀ p,p ∈ l→∃ v,look vs p.s=some v
theorem mid_dot {vs l:List Trm} (c:Rat) (hl:SrcOk l) (hv:SrcOk vs) (ha:AllIn vs l):∀ k,k≤l.length→midTo vs c l k=c+dot (l.take k) vs vs.length
 | 0,_=>by
  have h0:∀ n,dot [] vs n=0:=fun n=>by induction n with
   | zero=>rfl
   | succ n ih=>unfold dot;rw [ih,cf_nil];grind
  unfold midTo;rw [List.take_zero,h0,Rat.add_zero]
 | k+1,hk=>by
  obtain ⟨v,e⟩:=ha _ (trD_mem (show k<l.length by omega));rw [mid_some e,mid_dot c hl hv ha k (by omega),take_trD (by omega),dot_snoc (fun p hp e => ?_) hv _ (Nat.le_refl _),List.take_length,look_cf e]
  ·grind
  ·obtain ⟨i,hi,rfl⟩:=List.getElem_of_mem hp;rw [List.length_take] at hi;rw [List.getElem_take,← trD_get (by omega)] at e;have:=hl.lt (show i<k by omega) (by omega);omega
theorem mid_all {vs l:List Trm} (c:Rat) (hl:SrcOk l) (hv:SrcOk vs) (ha:AllIn vs l):midTo vs c l l.length=c+dot l vs vs.length:=by
 rw [mid_dot c hl hv ha _ (Nat.le_refl _),List.take_length]
theorem others_all {vs l:List Trm} (ha:AllIn vs l):others vs l=[]:=by
 unfold others;refine List.filter_eq_nil_iff.2 fun p hp => ?_
 obtain ⟨v,e⟩:=ha p hp;rw [e];simp
theorem at_all {f:Frm} {vs:List Trm} (hl:SrcOk f.t) (hv:SrcOk vs) (ha:AllIn vs f.t):atI f vs=⟨f.c+dot f.t vs vs.length - f.r,f.c+dot f.t vs vs.length+f.r⟩:=by
 have:rad ⟨0,[],f.r⟩=f.r:=by unfold rad;show (0:Rat)+f.r=f.r;grind
 unfold atI;rw [mid_all f.c hl hv ha,others_all ha,this]
theorem dot_lin {p q:Rat} {a b s vs:List Trm} (h:∀ id,cf s id=p * cf a id+q * cf b id):∀ k,dot s vs k=p * dot a vs k+q * dot b vs k
 | 0=>by unfold dot;grind
 | k+1=>by unfold dot;rw [dot_lin h k,h];grind
theorem dot_rad {vs l:List Trm} (hl:SrcOk l) (hv:SrcOk vs) (ha:AllIn vs l) (hu:Unit1 vs):dot l vs vs.length≤radTo l l.length ∧ -(radTo l l.length)≤dot l vs vs.length:=by
 have h:∀ k,k≤l.length→midTo vs 0 l k≤radTo l k ∧ -(radTo l k)≤midTo vs 0 l k:=by
  intro k
  induction k with
  | zero=>intro _;show (0:Rat)≤0 ∧ -(0:Rat)≤0;grind
  | succ k ih =>
   intro hk;obtain ⟨i1,i2⟩:=ih (by omega);obtain ⟨v,e⟩:=ha _ (trD_mem (show k<l.length by omega));obtain ⟨u1,u2⟩:=look_unit hu e;obtain ⟨m1,m2⟩:=abs_mul_unit (c:=(trD l k).c) u1 u2;rw [mid_some e];show _≤radTo l k+absQ (trD l k).c ∧ -(radTo l k+absQ (trD l k).c)≤_;grind
 have:=h l.length (Nat.le_refl _);rw [mid_all 0 hl hv ha] at this;grind
theorem vTo_all {x:Nat→Int} {l:List Trm} (h:∀ p,p ∈ l→1≤p.s∧p.s≤6):AllIn (vTo x 6) l:=fun p hp=>by
 obtain ⟨h1,h2⟩:=h p hp;have hlen:p.s - 1<(vTo x 6).length:=by rw [vTo_len];omega
 have e:=look_at (vTo_src x (k:=6) (by omega)) hlen;have e2:(trD (vTo x 6) (p.s - 1)).s=p.s:=by
  rw [trD_get hlen];simp [vTo];omega
 rw [e2] at e;exact ⟨_,e⟩
end Go.Proofs.YtdikaoahgleffaaGreatDoor
namespace Go.Proofs.YtdikaoahgleffaaGreatDoor
open Go Go.Lib
theorem absQ_mul_le {p e r:Rat} (h1 : -r≤e) (h2:e≤r):p * e≤absQ p * r ∧ -(absQ p * r)≤p * e:=by
 by_cases h:p<0
 ·rw [absQ_neg h];have a:=Rat.mul_le_mul_of_nonneg_left h1 (show (0:Rat)≤0 - p by grind);have b:=Rat.mul_le_mul_of_nonneg_left h2 (show (0:Rat)≤0 - p by grind);constructor <;> grind
 ·rw [absQ_pos (by grind)];have a:=Rat.mul_le_mul_of_nonneg_left h1 (show (0:Rat)≤p by grind);have b:=Rat.mul_le_mul_of_nonneg_left h2 (show (0:Rat)≤p by grind);constructor <;> grind
def CanBe (f:Frm) (x v:Rat):Prop:=f.c+x - f.r≤v∧v≤f.c+x+f.r
theorem at_can {f:Frm} {vs:List Trm} (hl:SrcOk f.t) (hv:SrcOk vs) (ha:AllIn vs f.t) (v:Rat):(atI f vs).Has v ↔ CanBe f (dot f.t vs vs.length) v:=by
 rw [at_all hl hv ha];exact Iff.rfl
theorem CanBe.line {a:Frm} {x v g s u w:Rat} (ha:CanBe a x v) (h1:u≤g - s * v) (h2:g - s * v≤w):CanBe (lineF s u w a) (s * x+0 * 0) g:=by
 obtain ⟨a1,a2⟩:=ha;obtain ⟨m1,m2⟩:=absQ_mul_le (p:=s) (e:=v - (a.c+x)) (r:=a.r) (by grind) (by grind);unfold CanBe lineF combF constF;simp only [absQ_zero];constructor <;> grind
/-! The lines of the root, and of the inverse. -/
end Go.Proofs.YtdikaoahgleffaaGreatDoor
namespace Go.Proofs.YtdikaoahgleffaaGreatDoor
open Go Go.Lib
def rndT (T:Int) (l:List Trm):List Trm:=(l.map fun t=>(⟨t.s,dn t.c T⟩:Trm)).filter fun t => !decide (t.c=0)
def lostTo (T:Int) (c:Rat) (l:List Trm):Nat→Rat
 | 0=>0+(c - dn c T)
 | k+1=>lostTo T c l k+((trD l k).c - dn (trD l k).c T)
def rndF (T:Int) (a:Frm):Frm:=⟨dn a.c T,rndT T a.t,uq (lostTo T a.c a.t a.t.length+a.r) T⟩
theorem rndT_zero {T:Int} {l:List Trm} {k:Nat} (hk:k<l.length) (h:dn (trD l k).c T=0):rndT T (l.take (k+1))=rndT T (l.take k):=by
 unfold rndT;rw [take_trD hk,List.map_append,List.filter_append];simp [h]
theorem rndT_some {T:Int} {l:List Trm} {k:Nat} (hk:k<l.length) (h:dn (trD l k).c T≠0):rndT T (l.take (k+1))=rndT T (l.take k) ++ [⟨(trD l k).s,dn (trD l k).c T⟩]:=by
 unfold rndT;rw [take_trD hk,List.map_append,List.filter_append];simp [h]
theorem rndT_len (T:Int) (l:List Trm):(rndT T l).length≤l.length:=by
 unfold rndT;exact Nat.le_trans (List.length_filter_le _ _) (by simp)
theorem rndT_mem {T:Int} {l:List Trm} {t:Trm} (h:t ∈ rndT T l):t.c≠0∧∃ x,x ∈ l∧t=⟨x.s,dn x.c T⟩:=by
 unfold rndT at h;rw [List.mem_filter] at h;obtain ⟨h1,h2⟩:=h;obtain ⟨x,hx,e⟩:=List.mem_map.1 h1;exact ⟨by simpa using h2,x,hx,e.symm⟩
theorem src_map {f:Trm→Trm} (hf:∀ t,(f t).s=t.s) {l:List Trm} (h:SrcOk l):SrcOk (l.map f):=by
 refine ⟨fun p hp => ?_,List.pairwise_map.2 (h.asc.imp fun {a b} e=>by rw [hf,hf];exact e)⟩;obtain ⟨x,hx,rfl⟩:=List.mem_map.1 hp;rw [hf];exact h.src x hx
theorem rndT_src {T:Int} {l:List Trm} (h:SrcOk l):SrcOk (rndT T l):=by
 have:=src_map (f:=fun t=>⟨t.s,dn t.c T⟩) (fun _=>rfl) h;exact ⟨fun p hp=>this.src p (List.mem_filter.1 hp).1,this.asc.filter _⟩
theorem dn_zero {T:Int} (hT:0<T):dn 0 T=0:=by
 have:=downI_grid 0 hT;rw [show Rat.divInt 0 T=0 from Rat.zero_divInt T] at this;unfold dn;rw [this];exact Rat.zero_divInt T
theorem cf_rnd {T:Int} (hT:0<T):∀ {l:List Trm},SrcOk l→∀ id,cf (rndT T l) id=dn (cf l id) T
 | [],_,id=>by rw [cf_nil,dn_zero hT];rfl
 | x :: l,h,id=>by
  have ih:=cf_rnd hT h.tail id;have e:rndT T (x :: l)=if dn x.c T=0 then rndT T l else ⟨x.s,dn x.c T⟩ :: rndT T l:=by
   unfold rndT;rw [List.map_cons,List.filter_cons];by_cases hz:dn x.c T=0
   ·simp [hz]
   ·simp [hz]
  rw [e,cf_cons];by_cases hs:x.s=id
  ·have h0:cf l id=0:=cf_none fun p hp e2=>by have:=src_head h p hp;omega
   rw [if_pos hs];split
   ·rename_i hz;rw [ih,h0,dn_zero hT,hz]
   ·rw [cf_cons,if_pos hs]
  ·rw [if_neg hs];split
   ·exact ih
   ·rw [cf_cons,if_neg hs];exact ih
def gapT (T:Int) (l:List Trm):List Trm:=l.map fun t=>⟨t.s,t.c - dn t.c T⟩
theorem cf_gap {T:Int} (hT:0<T):∀ (l:List Trm) (id:Nat),cf (gapT T l) id=cf l id - dn (cf l id) T
 | [],id=>by show cf [] id=_;rw [cf_nil,dn_zero hT];grind
 | x :: l,id=>by
  show cf (⟨x.s,x.c - dn x.c T⟩ :: gapT T l) id=_;rw [cf_cons,cf_cons,cf_gap hT l id];by_cases h:x.s=id
  ·rw [if_pos h,if_pos h]
  ·rw [if_neg h,if_neg h]
theorem gap_at {T:Int} {l:List Trm} {k:Nat} (hk:k<l.length):trD (gapT T l) k=⟨(trD l k).s,(trD l k).c - dn (trD l k).c T⟩:=by
 have hk2:k<(gapT T l).length:=by unfold gapT;rw [List.length_map];exact hk
 rw [trD_get hk2,trD_get hk];simp [gapT]
theorem gap_len (T:Int) (l:List Trm):(gapT T l).length=l.length:=by unfold gapT;rw [List.length_map]
theorem gap_rad {T:Int} (hT:0<T) {c:Rat} {l:List Trm}:∀ k,k≤l.length→lostTo T c l k=(c - dn c T)+radTo (gapT T l) k
 | 0,_=>by unfold lostTo radTo;grind
 | k+1,hk=>by
  unfold lostTo radTo;rw [gap_rad hT k (by omega),gap_at (by omega),absQ_pos (show 0≤(trD l k).c - dn (trD l k).c T by have:=dn_le (trD l k).c hT;grind)];grind
theorem lost_nonneg {T:Int} (hT:0<T) (c:Rat) (l:List Trm):0≤lostTo T c l l.length:=by
 rw [gap_rad hT _ (Nat.le_refl _)];have:=radTo_nonneg (gapT T l) l.length;have:=dn_le c hT;grind
theorem CanBe.round {T:Int} (hT:0<T) {a:Frm} {vs:List Trm} {v:Rat} (sa:SrcOk a.t) (sv:SrcOk vs) (ha:AllIn vs a.t) (hu:Unit1 vs) (h:CanBe a (dot a.t vs vs.length) v):CanBe (rndF T a) (dot (rndT T a.t) vs vs.length) v:=by
 have sg:SrcOk (gapT T a.t):=src_map (f:=fun t=>⟨t.s,t.c - dn t.c T⟩) (fun _=>rfl) sa;have ag:AllIn vs (gapT T a.t):=fun p hp=>by
  obtain ⟨x,hx,rfl⟩:=List.mem_map.1 hp;exact ha x hx
 obtain ⟨d1,d2⟩:=dot_rad sg sv ag hu;have e:dot (gapT T a.t) vs vs.length=1 * dot a.t vs vs.length+(-1) * dot (rndT T a.t) vs vs.length:=dot_lin (fun id=>by rw [cf_gap hT,cf_rnd hT sa];grind) _;have l1:=gap_rad hT (c:=a.c) (l:=a.t) _ (Nat.le_refl _);rw [gap_len] at d1 d2;have u1:=le_uq (lostTo T a.c a.t a.t.length+a.r) hT;have c1:=dn_le a.c hT;obtain ⟨h1,h2⟩:=h;unfold CanBe rndF;simp only;generalize dot (rndT T a.t) vs vs.length=y at *;generalize dot a.t vs vs.length=x at *;generalize dot (gapT T a.t) vs vs.length=g at *;generalize radTo (gapT T a.t) a.t.length=s at *;generalize uq (lostTo T a.c a.t a.t.length+a.r) T=u at *;constructor <;> grind
theorem rndF_ok {T:Int} (hT:0<T) {a:Frm} (oa:a.Ok):(rndF T a).Ok where
 few:=Nat.le_trans (rndT_len T a.t) oa.few
 src:=rndT_src oa.src
 nz:=fun p hp=>(rndT_mem hp).1
 rest:=by
  have h1:=lost_nonneg hT a.c a.t;have h2:=oa.rest;have h3:=le_uq (lostTo T a.c a.t a.t.length+a.r) hT;show 0≤uq _ T;grind
/-! How large they are. -/
theorem rat_natAbs {z:Int} {m:Nat} (h1:(z:Rat)≤((m:Int):Rat)) (h2 : -((m:Int):Rat)≤(z:Rat)):z.natAbs≤m:=by
 have a:=Rat.intCast_le_intCast.1 h1;rw [← Rat.intCast_neg] at h2;have b:=Rat.intCast_le_intCast.1 h2;omega
theorem Gr.bound {d m:Nat} {q:Rat} (h:Gr d m q) (hd:0<d):q≤((m:Int):Rat) ∧ -((m:Int):Rat)≤q:=by
 obtain ⟨z,h1,h2⟩:=h;have hd':(1:Rat)≤((d:Int):Rat):=by
  have:=Rat.intCast_le_intCast.2 (show (1:Int)≤(d:Int) by omega)
  rwa [Rat.intCast_one] at this
 have hm:(0:Rat)≤((m:Int):Rat):=Rat.intCast_nonneg.2 (by omega);have z1:(z:Rat)≤((m:Int):Rat):=Rat.intCast_le_intCast.2 (by omega);have z2 : -((m:Int):Rat)≤(z:Rat):=by rw [← Rat.intCast_neg];exact Rat.intCast_le_intCast.2 (by omega)
 rw [← h1] at z1 z2;generalize ((d:Int):Rat)=D at *;generalize ((m:Int):Rat)=M at *;have k:=Rat.mul_le_mul_of_nonneg_left hd' hm;constructor
 ·by_cases hq:q≤M
  ·exact hq
  ·have:=Rat.mul_le_mul_of_nonneg_right (show M≤q by grind) (show 0≤D by grind);have h3:(q - M) * D > 0:=Rat.mul_pos (by grind) (by grind);have:q * D - M * D > 0:=by grind
   have:=Rat.mul_le_mul_of_nonneg_left hd' hm;grind
 ·by_cases hq : -M≤q
  ·exact hq
  ·have h3:(-M - q) * D > 0:=Rat.mul_pos (by grind) (by grind);have : -(M * D) - q * D > 0:=by grind
   grind
theorem near_gr {z:Int} {d m:Nat} {q:Rat} {T:Nat} (h:Gr d m q) (hd:0<d) (hT:0<T) (h1:(z:Rat)≤q * ((T:Int):Rat)+1) (h2:q * ((T:Int):Rat)≤(z:Rat)+1):Gr T ((m+1) * T) (Rat.divInt z T):=by
 refine Gr.ofInt hT ?_;obtain ⟨b1,b2⟩:=h.bound hd;have hT':(1:Rat)≤((T:Int):Rat):=by
  have:=Rat.intCast_le_intCast.2 (show (1:Int)≤(T:Int) by omega)
  rwa [Rat.intCast_one] at this
 have e:(((((m+1) * T:Nat):Int)):Rat)=(((m:Int):Rat)+1) * ((T:Int):Rat):=by
  rw [Int.natCast_mul,Rat.intCast_mul,Int.natCast_add,Rat.intCast_add];simp
 have m1:=Rat.mul_le_mul_of_nonneg_right b1 (show (0:Rat)≤((T:Int):Rat) by grind);have m2:=Rat.mul_le_mul_of_nonneg_right b2 (show (0:Rat)≤((T:Int):Rat) by grind);refine rat_natAbs ?_ ?_
 ·rw [e];grind
 ·rw [e];grind
theorem dn_gr {d m p:Nat} {q:Rat} (h:Gr d m q) (hd:0<d):Gr (10 ^ p) ((m+1) * 10 ^ p) (dn q (TT p)):=by
 have s:=downI_spec q (TT p);refine near_gr h hd (Nat.pow_pos (by decide)) ?_ ?_
 ·have:=s.1;unfold TT at this ⊢;grind
 ·have:=s.2;unfold TT at this ⊢;grind
theorem uq_gr {d m p:Nat} {q:Rat} (h:Gr d m q) (hd:0<d):Gr (10 ^ p) ((m+1) * 10 ^ p) (uq q (TT p)):=by
 have s:=upI_spec q (TT p);refine near_gr h hd (Nat.pow_pos (by decide)) ?_ ?_
 ·have:=s.2;unfold TT at this ⊢;grind
 ·have:=s.1;unfold TT at this ⊢;grind
theorem loss_gr {m p:Nat} {q:Rat} (h:Gr 4 m q):Gr (4 * 10 ^ p) ((m+m+1) * 10 ^ p * 4) (q - dn q (TT p)):=by
 have a:=h.fine (10 ^ p);have b:=((dn_gr (p:=p) h (by decide)).fine 4).cast (Nat.mul_comm _ _) (Nat.le_refl _);refine (a.sub b).mono ?_;generalize 10 ^ p=T;have:m * T+(m+1) * T * 4≤(m+m+1) * T * 4:=by
  have e1:(m+1) * T * 4=m * T * 4+T * 4:=by rw [Nat.succ_mul,Nat.add_mul]
  have e2:(m+m+1) * T * 4=m * T * 4+m * T * 4+T * 4:=by rw [Nat.succ_mul,Nat.add_mul,Nat.add_mul,Nat.add_mul]
  omega
 exact this
theorem lost_gr {m p:Nat} {c:Rat} {l:List Trm} (hc:Gr 4 m c) (hl:∀ t,t ∈ l→Gr 4 m t.c):∀ k,k≤l.length→Gr (4 * 10 ^ p) ((k+1) * ((m+m+1) * 10 ^ p * 4)) (lostTo (TT p) c l k)
 | 0,_=>by unfold lostTo;rw [Rat.zero_add,Nat.zero_add,Nat.one_mul];exact loss_gr hc
 | k+1,hk=>by
  unfold lostTo;refine ((lost_gr hc hl k (by omega)).add (loss_gr (hl _ (trD_mem (by omega))))).mono ?_;rw [Nat.succ_mul (k+1)];exact Nat.le_refl _
structure RndF (p:Nat) (a:Frm):Prop where
 dig:FDig 150 a
 pl:p≤30
 sub0:SF a.c (dn a.c (TT p))
 add0:AF 0 (a.c - dn a.c (TT p))
 sub:∀ k,k<a.t.length→SF (trD a.t k).c (dn (trD a.t k).c (TT p))
 add:∀ k,k<a.t.length→AF (lostTo (TT p) a.c a.t k) ((trD a.t k).c - dn (trD a.t k).c (TT p))
 last:AF (lostTo (TT p) a.c a.t a.t.length) a.r
 up:QDig 150 (lostTo (TT p) a.c a.t a.t.length+a.r)
theorem pow_p {p:Nat} (hp:p≤30):10 ^ p≤10 ^ 30:=Nat.pow_le_pow_right (by decide) hp
theorem RndF.of {p:Nat} {a:Frm} (ha:FGr 4 80 a) (hp:p≤30) (la:a.t.length≤5):RndF p a∧FGr (10 ^ p) (10 ^ 70) (rndF (TT p) a):=by
 have h1:10 ^ p≤10 ^ 30:=pow_p hp;have T0:0<10 ^ p:=Nat.pow_pos (by decide);have da:FDig 9 a:=ha.dig (by decide) (by decide) (by decide);have one:∀ {q:Rat},Gr 4 80 q→QDig 40 (dn q (TT p))∧QDig 40 (q - dn q (TT p)):=fun {q} hq=>by
  refine ⟨(dn_gr hq (by decide)).dig T0 (by omega) ?_,(loss_gr hq).dig (by omega) ?_ ?_⟩ <;> omega
 have lost:∀ k,k≤a.t.length→Gr (4 * 10 ^ p) (10 ^ 36) (lostTo (TT p) a.c a.t k):=fun k hk=>(lost_gr ha.c ha.t k hk).mono (by
  have:(k+1) * ((80+80+1) * 10 ^ p * 4)≤6 * ((80+80+1) * 10 ^ p * 4):=Nat.mul_le_mul_right _ (by omega);omega)
 have ld:∀ k,k≤a.t.length→QDig 40 (lostTo (TT p) a.c a.t k):=fun k hk=>(lost k hk).dig (by omega) (by omega) (by omega)
 have gl:Gr (4 * 10 ^ p) (10 ^ 37) (lostTo (TT p) a.c a.t a.t.length+a.r):=((lost _ (Nat.le_refl _)).add (ha.r.fine (10 ^ p))).mono (by omega);have d0:QDig 9 0:=qd (by decide +kernel);have dc:=one ha.c;refine ⟨⟨da.mono (by decide),hp,SF.of da.c dc.1 (by decide),AF.of d0 dc.2 (by decide),fun k hk => ?_,fun k hk => ?_,AF.of (ld _ (Nat.le_refl _)) da.r (by decide),(gl.dig (k:=40) (by omega) (by omega) (by omega)).mono (by decide)⟩,⟨(dn_gr ha.c (by decide)).mono (by omega),fun t ht => ?_,?_⟩⟩
 ·have:=ha.t _ (trD_mem hk);exact SF.of (da.t _ (trD_mem hk)) (one this).1 (by decide)
 ·have:=ha.t _ (trD_mem hk);exact AF.of (ld k (by omega)) (one this).2 (by decide)
 ·obtain ⟨_,x,hx,rfl⟩:=rndT_mem ht;exact (dn_gr (ha.t x hx) (by decide)).mono (by omega)
 ·exact (uq_gr gl (by omega)).mono (by
   have:(10 ^ 37+1) * 10 ^ p≤(10 ^ 37+1) * 10 ^ 30:=Nat.mul_le_mul_left _ h1;omega)
end Go.Proofs.YtdikaoahgleffaaGreatDoor
