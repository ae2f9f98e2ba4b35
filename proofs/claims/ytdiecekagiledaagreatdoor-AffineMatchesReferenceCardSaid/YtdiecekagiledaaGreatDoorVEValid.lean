/- The affine laws' list of package-level variables: what EnvA wants. Affine. -/
import Derived.Test.YtdiecekagiledaaGreatDoorVACompute
set_option linter.unusedVariables false
set_option linter.unusedSimpArgs false
set_option maxRecDepth 100000
set_option maxHeartbeats 16000000
namespace Go.Proofs.YtdiecekagiledaaGreatDoor
open Go Go.ChangeShapes Go.WideShapes Go.ChangeAt Go.RowKit Go.Lib Go.WideMaps Go.Joins Go.Proofs.Tryz
theorem qbW:prog.globalNamed "yardstick/affine.errFails" = some 0:=by kernel_rfl
theorem kbh:(prog.globals[0]?).map (·.type)=some 119:=by kernel_rfl
theorem ya4{W:World}(h:laidMetH prog lawLaid8 W):∃ a0 a1,EnvA a0 a1 W:=by
 have env:=ka4 h;rw[MakeChecks.laidMetH_plain _ _ _ kr9]at h;obtain⟨a,s,hv,_⟩:=laid_sentinel (r:=lawLaid8.drop 7) h.tail.tail.tail.tail.tail.tail vct ybC underlying119 ybw underlying275 underlying277 rfl rfl underlying9 kr9 kr9;obtain⟨b,t,hw,_⟩:=laid_sentinel (r:=lawLaid8.drop 8) h.tail.tail.tail.tail.tail.tail.tail qbW kbh underlying119 ybw underlying275 underlying277 rfl rfl underlying9 kr9 kr9;refine⟨a,b,⟨⟨env,?_⟩,?_⟩⟩
 ·have:=World.var?_cell vct hv 0;simpa using this
 ·have:=World.var?_cell qbW hw 0;simpa using this
def Gr(d m:Nat)(q:Rat):Prop:=∃ z:Int,q*((d:Int):Rat)=(z:Rat)/\z.natAbs<=m
theorem Gr.mono{d m n:Nat}{q:Rat}(h:Gr d m q)(hmn:m<=n):Gr d n q:=by
 obtain⟨z,e,b⟩:=h;exact⟨z,e,oo⟩
theorem Gr.zero(d:Nat):Gr d 0 0:=⟨0,by grind,by decide⟩
theorem Gr.add{d m n:Nat}{a b:Rat}(ha:Gr d m a)(hb:Gr d n b):Gr d (m+n) (a+b):=by
 obtain⟨x,ex,bx⟩:=ha;obtain⟨y,ey,b2⟩:=hb;exact⟨x+y,by rw[Rat.add_mul,ex,ey];push_cast;rfl,oo⟩
theorem Gr.sub{d m n:Nat}{a b:Rat}(ha:Gr d m a)(hb:Gr d n b):Gr d (m+n) (a-b):=by
 obtain⟨x,ex,bx⟩:=ha;obtain⟨y,ey,b2⟩:=hb;exact⟨x-y,by rw[show(a-b)*((d:Int):Rat)=a*((d:Int):Rat)-b*((d:Int):Rat) by grind,ex,ey];push_cast;rfl,oo⟩
theorem Gr.mul{d e m n:Nat}{a b:Rat}(ha:Gr d m a)(hb:Gr e n b):Gr (d*e) (m*n) (a*b):=by
 obtain⟨x,ex,bx⟩:=ha;obtain⟨y,ey,b2⟩:=hb;refine⟨x*y,?_,?_⟩
 ·rw[show((((d*e:Nat):Int)):Rat)=((d:Int):Rat)*((e:Int):Rat) by push_cast;rfl,show a*b*(((d:Int):Rat)*((e:Int):Rat))=(a*((d:Int):Rat))*(b*((e:Int):Rat)) by grind,ex,ey];push_cast;rfl
 ·rw[Int.natAbs_mul];exact Db bx b2
theorem Gr.abs{d m:Nat}{a:Rat}(ha:Gr d m a):Gr d m (vj a):=by
 unfold vj;split
 ·have:=(Gr.zero d).sub ha;exact this.mono oo
 ·exact ha
theorem Gr.fine{d m:Nat}{a:Rat}(ha:Gr d m a)(k:Nat):Gr (d*k) (m*k) a:=by
 have h:Gr k k 1:=⟨(k:Int),by grind,oo⟩
 have:=ha.mul h
 rwa[show a*1=a by grind]at this
theorem Gr.ofInt{n:Int}{d m:Nat}(hd:0<d)(hn:n.natAbs<=m):Gr d m (Rat.divInt n d):=⟨n,kD oo,hn⟩
theorem Gr.eq{d m:Nat}{q:Rat}(h:Gr d m q)(hd:0<d):∃ z:Int,q=Rat.divInt z d/\z.natAbs<=m:=by
 obtain⟨z,e,b⟩:=h;refine⟨z,?_,b⟩;have h1:=kD (n:=z) (T:=(d:Int)) oo;have hd':((d:Int):Rat)≠0:=by
  intro h0;have:(d:Int)=0:=by exact_mod_cast h0
  omega
 have:(q-Rat.divInt z d)*((d:Int):Rat)=0:=by grind
 rcases Rat.mul_eq_zero.1 this with h|h
 ·grind
 ·exact absurd h hd'
theorem Gr.dig{d m k:Nat}{q:Rat}(h:Gr d m q)(hd:0<d)(h1:d<10^k)(h2:m<10^k):QDig k q:=by
 obtain⟨z,rfl,b⟩:=h.eq hd;exact QDig.ofInt oo (by unfold Dig;omega) (by unfold Dig;omega)
structure FGr(d m:Nat)(f:Frm):Prop where
 c:Gr d m f.c
 t:∀ p,p∈f.t->Gr d m p.c
 r:Gr d m f.r
theorem FGr.mono{d m n:Nat}{f:Frm}(h:FGr d m f)(hmn:m<=n):FGr d n f:=⟨h.c.mono hmn,fun p hp=>(h.t p hp).mono hmn,h.r.mono hmn⟩
theorem FGr.dig{d m k:Nat}{f:Frm}(h:FGr d m f)(hd:0<d)(h1:d<10^k)(h2:m<10^k):FDig k f:=⟨h.c.dig hd h1 h2,fun p hp=>(h.t p hp).dig hd h1 h2,h.r.dig hd h1 h2⟩
theorem Gr.cast{d e m n:Nat}{q:Rat}(h:Gr d m q)(hd:d=e)(hm:m<=n):Gr e n q:=hd ▸ h.mono hm
theorem zaX{d m:Nat}{l:List Trm}(h:∀ p,p∈l->Gr d m p.c):∀ k,k<=l.length->Gr d (k*m) (yo l k)
 | 0,_=>by rw[Nat.zero_mul];exact Gr.zero d
 | k+1,hk=>by
  have h1:=zaX h k oo;have h2:=(h _ (yk (show k<l.length by omega))).abs;exact(h1.add h2).cast rfl (by rw[DV];omega)
theorem jbw{d m n:Nat}{f:Frm}(h:FGr d m f)(hn:f.t.length+1<=n):Gr d (n*m) (rad f) :=
 ((zaX h.t _ (Am _)).add h.r).mono (by
  have:=BC m hn;rw[DV]at this;exact this)
theorem AF.dig{a b:Rat}(h:AF a b):QDig 200 (a+b):=by rw[<- qaj];exact kk (BG (den_pos a) (den_pos b)) h.n h.d
theorem SF.dig{a b:Rat}(h:SF a b):QDig 200 (a-b):=by rw[<- yan];exact kk (BG (den_pos a) (den_pos b)) h.n h.d
theorem MF.dig{a b:Rat}(h:MF a b):QDig 200 (a*b):=by rw[<- kam];exact kk (BG (den_pos a) (den_pos b)) h.n h.d
theorem DF.dig{a b:Rat}(h:DF a b):QDig 200 (a/b):=by
 rw[<- jaC];rcases DT b.num 0 with hb|hb|hb
 ·rw[<- jaq];refine kk ?_ (by unfold Dig;rw[Da];exact h.n) (by unfold Dig;rw[Da];exact h.d);have:=BG (den_pos a) (show 0 < -b.num by omega);rw[DN]at this;exact this
 ·exact absurd (Dj.1 hb) h.b0
 ·exact kk (BG (den_pos a) hb) h.n h.d
theorem SF.neg{a:Rat}(h:QDig 200 a):SF 0 a:=by
 refine⟨⟨by unfold Dig;decide,by unfold Dig;decide⟩,h,?_,?_,?_,?_⟩
 ·show Fits (0*_);rw[Int.zero_mul];exact(show Dig 200 0 by unfold Dig;decide)
 ·show Fits (a.num*1);rw[Int.mul_one];exact h.1
 ·show Fits (0*_-a.num*1);rw[Int.zero_mul,Int.mul_one,Int.zero_sub];show Dig 200 _;unfold Dig;rw[Da];exact h.1
 ·show Fits (1*_);rw[Int.one_mul];exact h.2
structure RadF(f:Frm):Prop where
 dig:FDig 200 f
 step:∀ k,k<f.t.length->AF (yo f.t k) (vj (trD f.t k).c)
 last:AF (yo f.t f.t.length) f.r
theorem RadF.of{d m n:Nat}{f:Frm}(h:FGr d m f)(hn:f.t.length+1<=n)(hd:0<d)(h1:d<10^99)(h2:n*m<10^99):RadF f:=by
 have hm:m<=n*m:=CB m oo;have hk:∀ k,k<=f.t.length->QDig 99 (yo f.t k):=fun k hk=>(zaX h.t k hk).dig hd h1 (AS (BC m oo) h2)
 exact⟨(h.dig hd h1 oo).mono dd,fun k hlt=>Ct (hk k oo) (((h.t _ (yk hlt)).abs).dig hd h1 oo) dd,Ct (hk _ (Am _)) (h.r.dig hd h1 oo) dd⟩
structure LinF(p q:Rat)(a b:Frm):Prop where
 dp:QDig 200 p
 dq:QDig 200 q
 da:FDig 200 a
 db:FDig 200 b
 l:∀ x,x∈a.t->MF p x.c
 r:∀ y,y∈b.t->MF q y.c
 s:∀ x,x∈a.t->∀ y,y∈b.t->x.s=y.s->AF (p*x.c) (q*y.c)
 rl:MF (vj p) a.r
 rr:MF (vj q) b.r
 rs:AF (vj p*a.r) (vj q*b.r)
 few:(lin p q a.t b.t).length<=64
theorem LinF.of{j k:Nat}{p q:Rat}{a b:Frm}(hp:QDig j p)(hq:QDig j q)(ha:FDig k a)(hb:FDig k b)(hjk:(j+k)+(j+k)+1<=200)(few:(lin p q a.t b.t).length<=64):LinF p q a b :=
 ⟨hp.mono oo,hq.mono oo,ha.mono oo,hb.mono oo,fun x hx=>DS hp (ha.t x hx) oo,fun y hy=>DS hq (hb.t y hy) oo,
  fun x hx y hy _=>Ct (hp.mul (ha.t x hx)) (hq.mul (hb.t y hy)) hjk,DS (vD hp) ha.r oo,DS (vD hq) hb.r oo,Ct ((vD hp).mul ha.r) ((vD hq).mul hb.r) hjk,few⟩
structure CombF(p q:Rat)(a b:Frm):Prop where
 lin:LinF p q a b
 cl:MF p a.c
 cr:MF q b.c
 cs:AF (p*a.c) (q*b.c)
theorem CombF.of{j k:Nat}{p q:Rat}{a b:Frm}(hp:QDig j p)(hq:QDig j q)(ha:FDig k a)(hb:FDig k b)(hjk:(j+k)+(j+k)+1<=200)(few:(Proofs.YtdiecekagiledaaGreatDoor.lin p q a.t b.t).length<=64):CombF p q a b :=
 ⟨LinF.of hp hq ha hb hjk few,DS hp ha.c oo,DS hq hb.c oo,Ct (hp.mul ha.c) (hq.mul hb.c) hjk⟩
open Go.Shelf
theorem jbh(n:Int)(h0 : -9223372036854775808<=n)(h1:n<=9223372036854775807)(w:World)(ht:Tab w) :
  Calls prog 135 #[.int .i64 n] w fun e w'=>e=.returned (.string ⟨(itoa n).toArray⟩)/\Aa w w':=by
 go_enter func135,ntmps135;go_wp2_with (go_at_call 171;go_must (refine(Tryz.strconv_Itoa n h0 h1 _ ht).mono ?_;rintro e w1⟨rfl,k,os,rfl⟩));go_ret;exact⟨rfl,below_grown_sl _ _ _ _ (Am _)⟩
theorem qaK{P:Program}{Q:Exit->Act->World->Prop}{a:Act}{w:World}{c rest:Code}(l:Nat)(J:Act->World->Prop)(μ:Act->World->Nat)(hf:findLabel c l=some (.seq .skip rest))
  (pass:∀ a w,J a w->rest.wp P (Exit.jump l (fun a' w'=>J a' w'/\μ a' w'<μ a w) Q) a w)
  (first:(∀ a w,J a w->rest.wp P (Exit.jump l J Q) a w)->c.wp P (Exit.jump l J Q) a w):(Code.scope c).wp P Q a w:=by
 refine wp_scope_jumps l J μ hf (first fun a w hJ=>Code.wp_mono (fun e a' w' h => ?_) (pass a w hJ)) (fun a w hJ=>wp_seq (wp_skip (pass a w hJ)))
 cases e
 case goto=>exact⟨h.1,h.2.1⟩
 all_goals exact h
def vcz(w:World)(b:Nat):Nat:=match w.cell? ⟨b,1,none⟩with|some (.string s)=>(zOf s.data.toList).natAbs|_=>0
theorem ybq{w:World}{b:Nat}{z:Int}(h:w.cell? ⟨b,1,none⟩=some (.string (S z))):vcz w b=z.natAbs:=by
 unfold vcz;rw[h];simp only;rw[qq z,yaz]
structure CmpInv(g:Int)(s n d m e:Int):Prop where
 hd:0<d
 he:0<e
 hs:s=1\/s = -1
 val:s*vbc (n*e) (m*d)=g
 fn:Fits n
 fd:Fits d
 fm:Fits m
 fe:Fits e
def kda(w:World)(g:Int)(B:Nat)(A0 B0:Value)(a':Act)(w':World):Prop:=∃(s n d m e:Int) (u6:Value) (u7:Value) (u8:Value) (u9:Value) (u10:Value) (u11:Value) (u12:Value) (u13:Value) (u14:Value) (u15:Value) (u16:Value) (u17:Value) (u18:Value) (u19:Value) (u20:Value) (u21:Value) (u22:Value) (u23:Value) (u24:Value) (u25:Value) (u26:Value) (u27:Value) (u28:Value) (u29:Value) (u30:Value) (u31:Value) (u32:Value) (u33:Value) (u34:Value) (u35:Value) (u36:Value) (u37:Value) (u38:Value) (u39:Value) (u40:Value) (u41:Value) (u42:Value) (u43:Value) (u44:Value) (u45:Value) (u46:Value) (u47:Value) (u48:Value) (u49:Value) (u50:Value) (u51:Value) (u52:Value) (u53:Value) (u54:Value) (u55:Value) (u56:Value) (u57:Value) (u58:Value) (u59:Value) (u60:Value) (u61:Value) (u62:Value) (u63:Value) (u64:Value) (u65:Value) (u66:Value) (u67:Value) (u68:Value) (u69:Value) (u70:Value) (u71:Value) (u72:Value) (u73:Value),a'={ tmps:=#[A0,B0,.pointer (some ⟨B,0,none⟩),.pointer (some ⟨B+1,0,none⟩),.int .i64 0,.int .i64 s,u6,u7,u8,u9,u10,u11,u12,u13,u14,u15,u16,u17,u18,u19,u20,u21,u22,u23,u24,u25,u26,u27,u28,u29,u30,u31,u32,u33,u34,u35,u36,u37,u38,u39,u40,u41,u42,u43,u44,u45,u46,u47,u48,u49,u50,u51,u52,u53,u54,u55,u56,u57,u58,u59,u60,u61,u62,u63,u64,u65,u66,u67,u68,u69,u70,u71,u72,u73],defers:=[] }/\CmpInv g s n d m e/\Row w' B (.cells #[.string (S n),.string (S d)] 23)/\Row w' (B+1) (.cells #[.string (S m),.string (S e)] 23)/\Aa w w'
theorem yO{x y:Int}(h:Fits y)(hy:y≠0):Fits (x%y):=(Dig.emod (k:=200) x h hy)
theorem kO{x:Int}(h:Fits x)(y:Int):Fits (x/y):=(Dig.ediv (k:=200) h y)
theorem kP(a b:Rat)(ha:QDig 200 a)(hb:QDig 200 b)(w:World)(he:Env w) :
  Calls prog 101 #[Q a,Q b] w (jB (zE a b) w):=by
 obtain⟨r1,r2,hB⟩:Row ((w.alloc (.cells #[.string (S a.num),.string (S (a.den:Int))] 23)).alloc (.cells #[.string (S b.num),.string (S (b.den:Int))] 23)) w.heap.size (.cells #[.string (S a.num),.string (S (a.den:Int))] 23)/\Row ((w.alloc (.cells #[.string (S a.num),.string (S (a.den:Int))] 23)).alloc (.cells #[.string (S b.num),.string (S (b.den:Int))] 23)) (w.heap.size+1) (.cells #[.string (S b.num),.string (S (b.den:Int))] 23)/\Aa w ((w.alloc (.cells #[.string (S a.num),.string (S (a.den:Int))] 23)).alloc (.cells #[.string (S b.num),.string (S (b.den:Int))] 23)):=by
  refine⟨(qp w _).alloc _,?_,((Au w.heap.size w).alloc (Am _) _).alloc (by simp) _⟩;have e1:(w.alloc (.cells #[.string (S a.num),.string (S (a.den:Int))] 23)).heap.size=w.heap.size+1:=by simp
  rw[<- e1];exact qp _ _
 have I0:CmpInv (zE a b) 1 a.num a.den b.num b.den:=⟨den_pos a,den_pos b,.inl rfl,by rw[Int.one_mul,qaM],ha.1,ha.2,hb.1,hb.2⟩
 show Calls prog 101 #[.agg #[.string (S a.num),.string (S (a.den:Int))],.agg #[.string (S b.num),.string (S (b.den:Int))]] w _;have h1:=fun W (h:Env W)=>qK a ha W h
 have h2:=fun W (h:Env W)=>qK b hb W h
 generalize zE a b=g at *;go_enter func101,ntmps101;go_wp2_with fail;refine qaK 0 (kda w g w.heap.size (.agg #[.string (S a.num),.string (S (a.den:Int))]) (.agg #[.string (S b.num),.string (S (b.den:Int))])) (fun _ w'=>vcz w' w.heap.size) rfl ?_ fun hp => ?_
 ·clear h1 h2 I0 r1 r2 hB;generalize (Value.agg #[.string (S a.num),.string (S (a.den:Int))])=A0;generalize (Value.agg #[.string (S b.num),.string (S (b.den:Int))])=B0;rintro a' w'⟨s,n,d,m,e,u6,u7,u8,u9,u10,u11,u12,u13,u14,u15,u16,u17,u18,u19,u20,u21,u22,u23,u24,u25,u26,u27,u28,u29,u30,u31,u32,u33,u34,u35,u36,u37,u38,u39,u40,u41,u42,u43,u44,u45,u46,u47,u48,u49,u50,u51,u52,u53,u54,u55,u56,u57,u58,u59,u60,u61,u62,u63,u64,u65,u66,u67,u68,u69,u70,u71,u72,u73,rfl,HI,r1,r2,hB⟩;have hd:=hid HI.hd;have hee:=hid HI.he;have V:=hid HI.val;have hs:=hid HI.hs;obtain⟨fn,fd,fm,fe⟩:Fits n/\Fits d/\Fits m/\Fits e:=⟨HI.fn,HI.fd,HI.fm,HI.fe⟩
  have sl : -1<=s/\s<=1:=by rcases hs.out with h|h<;>omega
  obtain⟨sl1,sl2⟩:=sl;clear HI;obtain⟨p,hp⟩:∃ p,n/d=p:=⟨_,rfl⟩
  obtain⟨r,hr⟩:∃ r,n%d=r:=⟨_,rfl⟩
  obtain⟨q,hq⟩:∃ q,m/e=q:=⟨_,rfl⟩
  obtain⟨t,ht⟩:∃ t,m%e=t:=⟨_,rfl⟩
  have fp:Fits p:=hp ▸ kO fn d;have fq:Fits q:=hq ▸ kO fm e;have fr:Fits r:=hr ▸ yO fd (by have:=hd.out;omega);have ft:Fits t:=ht ▸ yO fe (by have:=hee.out;omega);have CR:=hid (za3 (n:=n) (m:=m) hd.out hee.out);rw[hp,hr,hq,ht]at CR;have M:=ybq (z:=d) (Av r1).2.2.1;have P1:=hid hp;have P2:=hid hr;have P3:=hid hq;have P4:=hid ht;have M':=hid M;clear hp hr hq ht M;obtain⟨s1,a1,a2,a3,a4⟩:=Av r1;obtain⟨s2,b1,b2,b3,b4⟩:=Av r2;have in_:=qq n;have id_:=qq d;have im:=qq m;have ie:=qq e;have ip:=qq p;have iq:=qq q;go_wp2_with fail;refine(ycJ in_ id_ P1 P2 fn fd (hid (by have:=hd.out;omega)) _ (he.below hB)).mono ?_;rintro e W1⟨rfl,h1⟩;replace hB:=Em hB h1;replace r1:=r1.below h1;replace r2:=r2.below h1;clear h1;obtain⟨s1,a1,a2,a3,a4⟩:=Av r1;obtain⟨s2,b1,b2,b3,b4⟩:=Av r2;go_wp2_with fail;refine(ycJ im ie P3 P4 fm fe (hid (by have:=hee.out;omega)) _ (he.below hB)).mono ?_;rintro e W2⟨rfl,h1⟩;replace hB:=Em hB h1;replace r1:=r1.below h1;replace r2:=r2.below h1;clear h1;obtain⟨s1,a1,a2,a3,a4⟩:=Av r1;obtain⟨s2,b1,b2,b3,b4⟩:=Av r2;by_cases c0:p=q
  ·have C0:=hid c0;have Z:Hid (kp p q=0):=hid (ybe c0);clear c0;go_wp2_with fail;refine(qcA ip iq Z fp fq _).mono ?_;rintro e W3⟨rfl,h1⟩;replace hB:=Em hB h1;replace r1:=r1.below h1;replace r2:=r2.below h1;clear h1;obtain⟨s1,a1,a2,a3,a4⟩:=Av r1;obtain⟨s2,b1,b2,b3,b4⟩:=Av r2;by_cases r0:r=0
   ·have z1:=qa1 r0;by_cases t0:t=0
    ·have z2:=qa1 t0;have G:Hid (g=0):=hid (by rw[<- V.out,CR.out.2.1 C0.out r0 t0,Int.mul_zero]);clear r0 t0;generalize S r=sr at *;generalize S t=st at *;go_wp2;simp only[Exit.jump];go_ret;exact⟨by rw[G.out];rfl,hB⟩
    ·have z2:=kaA t0;have G:Hid (g = -s):=hid (by rw[<- V.out,CR.out.2.2.1 C0.out r0 t0];omega);clear r0 t0;generalize S r=sr at *;generalize S t=st at *;go_wp2;simp only[Exit.jump];go_ret;exact⟨by rw[G.out];rfl,hB⟩
   ·have z1:=kaA r0;by_cases t0:t=0
    ·have z2:=qa1 t0;have G:Hid (g=s):=hid (by rw[<- V.out,CR.out.2.2.2.1 C0.out r0 t0];omega);clear r0 t0;generalize S r=sr at *;generalize S t=st at *;go_wp2;simp only[Exit.jump];go_ret;exact⟨by rw[G.out];rfl,hB⟩
    ·have z2:=kaA t0;have L:=hid (CR.out.2.2.2.2 C0.out r0 t0);clear r0 t0;obtain⟨sr,hsr⟩:∃ x,x=S r:=⟨_,rfl⟩
     obtain⟨st,hst⟩:∃ x,x=S t:=⟨_,rfl⟩
     rw[<- hsr]at z1 ⊢;rw[<- hst]at z2 ⊢;have HR:=hid hsr;have HT:=hid hst;clear hsr hst;go_wp2;go_region;go_wp2;go_step3;obtain rfl:=HR.out;obtain rfl:=HT.out;obtain⟨l1,l2,l3,l4,l5⟩:=L.out;have R1:Row ((((W3.setCell ⟨w.heap.size,0,none⟩ (.string (S d))).setCell ⟨w.heap.size,1,none⟩ (.string (S r))).setCell ⟨w.heap.size+1,0,none⟩ (.string (S e))).setCell ⟨w.heap.size+1,1,none⟩ (.string (S t))).drew w.heap.size (.cells #[.string (S d),.string (S r)] 23):=AX (Ba (Ba (Bz r1) _ oo) _ oo);have R2:Row ((((W3.setCell ⟨w.heap.size,0,none⟩ (.string (S d))).setCell ⟨w.heap.size,1,none⟩ (.string (S r))).setCell ⟨w.heap.size+1,0,none⟩ (.string (S e))).setCell ⟨w.heap.size+1,1,none⟩ (.string (S t))).drew (w.heap.size+1) (.cells #[.string (S e),.string (S t)] 23):=AX (Bz (Ba (Ba r2 _ oo) _ oo));have NI:CmpInv g (-s) d r e t:=⟨l1,l3,by rcases hs.out with h|h<;>omega,by rw[<- V.out,l5];simp[Ee,DN],fd,fr,fe,ft⟩
     have HBB:Aa w ((((W3.setCell ⟨w.heap.size,0,none⟩ (.string (S d))).setCell ⟨w.heap.size,1,none⟩ (.string (S r))).setCell ⟨w.heap.size+1,0,none⟩ (.string (S e))).setCell ⟨w.heap.size+1,1,none⟩ (.string (S t))).drew:=yJ;refine⟨rfl,⟨-s,d,r,e,t,_,_,_,_,_,_,_,_,_,_,_,_,_,_,_,_,_,_,_,_,_,_,_,_,_,_,_,_,_,_,_,_,_,_,_,_,_,_,_,_,_,_,_,_,_,_,_,_,_,_,_,_,_,_,_,_,_,_,_,_,_,_,_,_,_,_,_,_,rfl,NI,R1,R2,HBB⟩,?_⟩;rw[ybq (z:=r) (Av R1).2.2.1,M'.out];omega
  ·obtain⟨c,hc⟩:∃ c,kp p q=c:=⟨_,rfl⟩
   have Z:=hid hc;have n0:(c != 0)=true:=by
    rw[<- hc];unfold kp;split<;>(try split)<;>first|rfl|omega
   obtain⟨v,hv⟩:∃ v,s*c=v:=⟨_,rfl⟩
   have G:Hid (g=v):=hid (by rw[<- V.out,CR.out.1 c0,<- hv,<- hc];rfl);have vl : -1<=v/\v<=1:=by
    rw[<- hv,<- hc];unfold kp;rcases hs.out with h|h<;>rw[h]<;>split<;>(try split)<;>omega
   obtain⟨vl1,vl2⟩:=vl;clear c0 hc;go_wp2_with fail;refine(qcA ip iq Z fp fq _).mono ?_;rintro e W3⟨rfl,h1⟩;replace hB:=Em hB h1;replace r1:=r1.below h1;replace r2:=r2.below h1;clear h1;obtain⟨s1,a1,a2,a3,a4⟩:=Av r1;obtain⟨s2,b1,b2,b3,b4⟩:=Av r2;generalize S r=sr at *;generalize S t=st at *;go_wp2;simp only[Exit.jump];go_ret;exact⟨by rw[G.out];rfl,hB⟩
 ·go_wp2_with fail;generalize ((w.alloc (.cells #[.string (S a.num),.string (S (a.den:Int))] 23)).alloc (.cells #[.string (S b.num),.string (S (b.den:Int))] 23))=W0 at *;refine(h1 _ (he.below hB)).mono ?_;rintro e W1⟨rfl,h1⟩;replace hB:=Em hB h1;replace r1:=r1.below h1;replace r2:=r2.below h1;clear h1;obtain⟨s1,a1,a2,a3,a4⟩:=Av r1;obtain⟨s2,b1,b2,b3,b4⟩:=Av r2;go_wp2_with fail;refine(h2 _ (he.below hB)).mono ?_;rintro e W2⟨rfl,h1⟩;replace hB:=Em hB h1;replace r1:=r1.below h1;replace r2:=r2.below h1;clear h1;obtain⟨s1,a1,a2,a3,a4⟩:=Av r1;obtain⟨s2,b1,b2,b3,b4⟩:=Av r2;go_wp2_with fail;go_step3;rename_i hK;refine hK _ _ (hp _ _ ?_);exact⟨1,a.num,a.den,b.num,b.den,_,_,_,_,_,_,_,_,_,_,_,_,_,_,_,_,_,_,_,_,_,_,_,_,_,_,_,_,_,_,_,_,_,_,_,_,_,_,_,_,_,_,_,_,_,_,_,_,_,_,_,_,_,_,_,_,_,_,_,_,_,_,_,_,_,_,_,_,rfl,I0,r1,r2,hB⟩
theorem RF1{X:World}{b:Nat}{u0:Value}{T:TypeId}(h:Row X b (.cells #[u0] T)):b<X.heap.size/\X.cell? ⟨b,0,none⟩=some u0:=⟨h.1,Af h 0 rfl⟩
theorem RF2{X:World}{b:Nat}{u0 u1:Value}{T:TypeId}(h:Row X b (.cells #[u0,u1] T)):b<X.heap.size/\X.cell? ⟨b,0,none⟩=some u0/\X.cell? ⟨b,1,none⟩=some u1:=⟨h.1,Af h 0 rfl,Af h 1 rfl⟩
theorem RF3{X:World}{b:Nat}{u0 u1 u2:Value}{T:TypeId}(h:Row X b (.cells #[u0,u1,u2] T)):b<X.heap.size/\X.cell? ⟨b,0,none⟩=some u0/\X.cell? ⟨b,1,none⟩=some u1/\X.cell? ⟨b,2,none⟩=some u2:=⟨h.1,Af h 0 rfl,Af h 1 rfl,Af h 2 rfl⟩
theorem RF4{X:World}{b:Nat}{u0 u1 u2 u3:Value}{T:TypeId}(h:Row X b (.cells #[u0,u1,u2,u3] T)):b<X.heap.size/\X.cell? ⟨b,0,none⟩=some u0/\X.cell? ⟨b,1,none⟩=some u1/\X.cell? ⟨b,2,none⟩=some u2/\X.cell? ⟨b,3,none⟩=some u3:=⟨h.1,Af h 0 rfl,Af h 1 rfl,Af h 2 rfl,Af h 3 rfl⟩
theorem RF5{X:World}{b:Nat}{u0 u1 u2 u3 u4:Value}{T:TypeId}(h:Row X b (.cells #[u0,u1,u2,u3,u4] T)):b<X.heap.size/\X.cell? ⟨b,0,none⟩=some u0/\X.cell? ⟨b,1,none⟩=some u1/\X.cell? ⟨b,2,none⟩=some u2/\X.cell? ⟨b,3,none⟩=some u3/\X.cell? ⟨b,4,none⟩=some u4:=⟨h.1,Af h 0 rfl,Af h 1 rfl,Af h 2 rfl,Af h 3 rfl,Af h 4 rfl⟩
theorem RF6{X:World}{b:Nat}{u0 u1 u2 u3 u4 u5:Value}{T:TypeId}(h:Row X b (.cells #[u0,u1,u2,u3,u4,u5] T)):b<X.heap.size/\X.cell? ⟨b,0,none⟩=some u0/\X.cell? ⟨b,1,none⟩=some u1/\X.cell? ⟨b,2,none⟩=some u2/\X.cell? ⟨b,3,none⟩=some u3/\X.cell? ⟨b,4,none⟩=some u4/\X.cell? ⟨b,5,none⟩=some u5:=⟨h.1,Af h 0 rfl,Af h 1 rfl,Af h 2 rfl,Af h 3 rfl,Af h 4 rfl,Af h 5 rfl⟩
theorem jz{X:World}{b:Nat}{u0:Value}{T:TypeId}(h:Row X b (.cells #[u0] T)):b<X.heap.size/\X.cell? ⟨b,0,none⟩=some u0/\X.frozen? ⟨b,0,none⟩=false:=⟨h.1,Af h 0 rfl,frozen_of_row _ _ 0 _ _ h.2⟩
theorem vd{X:World}{b:Nat}{u0 u1:Value}{T:TypeId}(h:Row X b (.cells #[u0,u1] T)):b<X.heap.size/\X.cell? ⟨b,0,none⟩=some u0/\X.cell? ⟨b,1,none⟩=some u1/\X.frozen? ⟨b,0,none⟩=false/\X.frozen? ⟨b,1,none⟩=false:=⟨h.1,Af h 0 rfl,Af h 1 rfl,frozen_of_row _ _ 0 _ _ h.2,frozen_of_row _ _ 1 _ _ h.2⟩
theorem vad{X:World}{b:Nat}{u0 u1 u2:Value}{T:TypeId}(h:Row X b (.cells #[u0,u1,u2] T)):b<X.heap.size/\X.cell? ⟨b,0,none⟩=some u0/\X.cell? ⟨b,1,none⟩=some u1/\X.cell? ⟨b,2,none⟩=some u2/\X.frozen? ⟨b,0,none⟩=false/\X.frozen? ⟨b,1,none⟩=false/\X.frozen? ⟨b,2,none⟩=false:=⟨h.1,Af h 0 rfl,Af h 1 rfl,Af h 2 rfl,frozen_of_row _ _ 0 _ _ h.2,frozen_of_row _ _ 1 _ _ h.2,frozen_of_row _ _ 2 _ _ h.2⟩
theorem kn{X:World}{b:Nat}{u0 u1 u2 u3:Value}{T:TypeId}(h:Row X b (.cells #[u0,u1,u2,u3] T)):b<X.heap.size/\X.cell? ⟨b,0,none⟩=some u0/\X.cell? ⟨b,1,none⟩=some u1/\X.cell? ⟨b,2,none⟩=some u2/\X.cell? ⟨b,3,none⟩=some u3/\X.frozen? ⟨b,0,none⟩=false/\X.frozen? ⟨b,1,none⟩=false/\X.frozen? ⟨b,2,none⟩=false/\X.frozen? ⟨b,3,none⟩=false:=⟨h.1,Af h 0 rfl,Af h 1 rfl,Af h 2 rfl,Af h 3 rfl,frozen_of_row _ _ 0 _ _ h.2,frozen_of_row _ _ 1 _ _ h.2,frozen_of_row _ _ 2 _ _ h.2,frozen_of_row _ _ 3 _ _ h.2⟩
theorem kd{X:World}{b:Nat}{u0 u1 u2 u3 u4:Value}{T:TypeId}(h:Row X b (.cells #[u0,u1,u2,u3,u4] T)):b<X.heap.size/\X.cell? ⟨b,0,none⟩=some u0/\X.cell? ⟨b,1,none⟩=some u1/\X.cell? ⟨b,2,none⟩=some u2/\X.cell? ⟨b,3,none⟩=some u3/\X.cell? ⟨b,4,none⟩=some u4/\X.frozen? ⟨b,0,none⟩=false/\X.frozen? ⟨b,1,none⟩=false/\X.frozen? ⟨b,2,none⟩=false/\X.frozen? ⟨b,3,none⟩=false/\X.frozen? ⟨b,4,none⟩=false:=⟨h.1,Af h 0 rfl,Af h 1 rfl,Af h 2 rfl,Af h 3 rfl,Af h 4 rfl,frozen_of_row _ _ 0 _ _ h.2,frozen_of_row _ _ 1 _ _ h.2,frozen_of_row _ _ 2 _ _ h.2,frozen_of_row _ _ 3 _ _ h.2,frozen_of_row _ _ 4 _ _ h.2⟩
theorem St0{A X W:World}(hB:Below A.heap.size A X)(h1:Below X.heap.size X W):Below A.heap.size A W:=Em hB h1
theorem St1{A X W:World}{b0:Nat}{o0:Obj}(hB:Below A.heap.size A X)(h1:Below X.heap.size X W)(r0:Row X b0 o0):Below A.heap.size A W/\Row W b0 o0:=⟨Em hB h1,Ae r0 h1⟩
theorem St2{A X W:World}{b0 b1:Nat}{o0 o1:Obj}(hB:Below A.heap.size A X)(h1:Below X.heap.size X W)(r0:Row X b0 o0)(r1:Row X b1 o1):Below A.heap.size A W/\Row W b0 o0/\Row W b1 o1:=⟨Em hB h1,Ae r0 h1,Ae r1 h1⟩
theorem St3{A X W:World}{b0 b1 b2:Nat}{o0 o1 o2:Obj}(hB:Below A.heap.size A X)(h1:Below X.heap.size X W)(r0:Row X b0 o0)(r1:Row X b1 o1)(r2:Row X b2 o2):Below A.heap.size A W/\Row W b0 o0/\Row W b1 o1/\Row W b2 o2:=⟨Em hB h1,Ae r0 h1,Ae r1 h1,Ae r2 h1⟩
theorem St4{A X W:World}{b0 b1 b2 b3:Nat}{o0 o1 o2 o3:Obj}(hB:Below A.heap.size A X)(h1:Below X.heap.size X W)(r0:Row X b0 o0)(r1:Row X b1 o1)(r2:Row X b2 o2)(r3:Row X b3 o3):Below A.heap.size A W/\Row W b0 o0/\Row W b1 o1/\Row W b2 o2/\Row W b3 o3:=⟨Em hB h1,Ae r0 h1,Ae r1 h1,Ae r2 h1,Ae r3 h1⟩
theorem St5{A X W:World}{b0 b1 b2 b3 b4:Nat}{o0 o1 o2 o3 o4:Obj}(hB:Below A.heap.size A X)(h1:Below X.heap.size X W)(r0:Row X b0 o0)(r1:Row X b1 o1)(r2:Row X b2 o2)(r3:Row X b3 o3)(r4:Row X b4 o4):Below A.heap.size A W/\Row W b0 o0/\Row W b1 o1/\Row W b2 o2/\Row W b3 o3/\Row W b4 o4:=⟨Em hB h1,Ae r0 h1,Ae r1 h1,Ae r2 h1,Ae r3 h1,Ae r4 h1⟩
theorem St6{A X W:World}{b0 b1 b2 b3 b4 b5:Nat}{o0 o1 o2 o3 o4 o5:Obj}(hB:Below A.heap.size A X)(h1:Below X.heap.size X W)(r0:Row X b0 o0)(r1:Row X b1 o1)(r2:Row X b2 o2)(r3:Row X b3 o3)(r4:Row X b4 o4)(r5:Row X b5 o5):Below A.heap.size A W/\Row W b0 o0/\Row W b1 o1/\Row W b2 o2/\Row W b3 o3/\Row W b4 o4/\Row W b5 o5:=⟨Em hB h1,Ae r0 h1,Ae r1 h1,Ae r2 h1,Ae r3 h1,Ae r4 h1,Ae r5 h1⟩
theorem St7{A X W:World}{b0 b1 b2 b3 b4 b5 b6:Nat}{o0 o1 o2 o3 o4 o5 o6:Obj}(hB:Below A.heap.size A X)(h1:Below X.heap.size X W)(r0:Row X b0 o0)(r1:Row X b1 o1)(r2:Row X b2 o2)(r3:Row X b3 o3)(r4:Row X b4 o4)(r5:Row X b5 o5)(r6:Row X b6 o6):Below A.heap.size A W/\Row W b0 o0/\Row W b1 o1/\Row W b2 o2/\Row W b3 o3/\Row W b4 o4/\Row W b5 o5/\Row W b6 o6:=⟨Em hB h1,Ae r0 h1,Ae r1 h1,Ae r2 h1,Ae r3 h1,Ae r4 h1,Ae r5 h1,Ae r6 h1⟩
theorem St8{A X W:World}{b0 b1 b2 b3 b4 b5 b6 b7:Nat}{o0 o1 o2 o3 o4 o5 o6 o7:Obj}(hB:Below A.heap.size A X)(h1:Below X.heap.size X W)(r0:Row X b0 o0)(r1:Row X b1 o1)(r2:Row X b2 o2)(r3:Row X b3 o3)(r4:Row X b4 o4)(r5:Row X b5 o5)(r6:Row X b6 o6)(r7:Row X b7 o7):Below A.heap.size A W/\Row W b0 o0/\Row W b1 o1/\Row W b2 o2/\Row W b3 o3/\Row W b4 o4/\Row W b5 o5/\Row W b6 o6/\Row W b7 o7:=⟨Em hB h1,Ae r0 h1,Ae r1 h1,Ae r2 h1,Ae r3 h1,Ae r4 h1,Ae r5 h1,Ae r6 h1,Ae r7 h1⟩
inductive QItem where
 | val (v:Value)
 | say (S:zY)
def QItem.sp:QItem->zY
 | .val v=>fun u _=>u=v
 | .say S=>S
def kg(l:List QItem)(i:Nat):zY:=match l[i]? with|some q=>q.sp|none=>fun _ _=>True
def zaH(S:zY):Prop:=∀ v W W',S v W->Below W.heap.size W W'->S v W'
def itemsMono:List QItem->Prop
 | []=>True
 | .val _ :: l=>itemsMono l
 | .say S :: l=>zaH S/\itemsMono l
theorem itemsMono.get:∀ {l:List QItem},itemsMono l->∀ i v W W',kg l i v W->Below W.heap.size W W'->kg l i v W'
 | [],_,i,v,W,W',h,_=>by simp[kg]
 | .val u :: l,hm,0,v,W,W',h,_=>h
 | .say S :: l,hm,0,v,W,W',h,hB=>hm.1 v W W' h hB
 | .val u :: l,hm,i+1,v,W,W',h,hB=>itemsMono.get (l:=l) hm i v W W' h hB
 | .say S :: l,hm,i+1,v,W,W',h,hB=>itemsMono.get (l:=l) hm.2 i v W W' h hB
def qaE(P:Program)(ops:Array Oper)(fl:List Oper)(items:List QItem)(tmps:Array Value)(w:World)(o:Oper)(q:QItem):Prop :=
 ∀(ρ:Operand->Value) (W:World),Aa w W->(∀ v,ρ (.const v)=v)->(∀ g,ρ (.global g)=.pointer (some ⟨g,0,none⟩))->(∀ f,ρ (.func f)=.func (.func f) #[] #[]) ->
  (∀ t,vg fl t=true->ρ (.tmp t)=tmps.getD t undef)->qj ops (kg items) ρ W o.after.toList ->
  if Region.wanted o (jf ops ρ) then yi P q.sp W ((execOp ρ o).run P W) else q.sp undef W
def allItems(P:Program)(ops:Array Oper)(fl:List Oper)(items:List QItem)(tmps:Array Value)(w:World):List Oper->List QItem->Prop
 | o :: l,q :: qs=>qaE P ops fl items tmps w o q/\allItems P ops fl items tmps w l qs
 | [],_=>True
 | _ :: _,[]=>False
theorem iC{P:Program}{ops:Array Oper}{fl:List Oper}{items:List QItem}{tmps:Array Value}{w:World}{o:Oper}{l:List Oper}{q:QItem}{qs:List QItem}(h:qaE P ops fl items tmps w o q)(h':allItems P ops fl items tmps w l qs):allItems P ops fl items tmps w (o :: l) (q :: qs):=⟨h,h'⟩
theorem allItems.quiet{P:Program}{ops:Array Oper}{fl:List Oper}{items:List QItem}{tmps:Array Value}{w:World}:∀(l:List Oper) (qs:List QItem) (k:Nat),allItems P ops fl items tmps w l qs->(∀ i,qs[i]? = items[k+i]?)->allQuiet P ops fl (kg items) tmps w k l
 | [],_,_,_,_=>trivial
 | o :: l,[],_,h,_=>h.elim
 | o :: l,q :: qs,k,h,hq=>by
  have e:kg items k=q.sp:=by
   have:=hq 0;rw[Dg]at this;unfold kg;rw[<- this];rfl
  refine⟨?_,allItems.quiet l qs (k+1) h.2 (fun i=>by have:=hq (i+1);simpa[Dn,Ci 1 i]using this)⟩;intro ρ W h1 h2 h3 h4 h5 h6;rw[e];exact h.1 ρ W h1 h2 h3 h4 h5 h6
def je(W:World)(K:Array Value->Prop):List Oper->List QItem->Array Value->Prop
 | o :: l,.val v :: qs,T=>je W K l qs (match o.dst with|some d=>T.setIfInBounds d v|none=>T)
 | o :: l,.say S :: qs,T=>match o.dst with|some d=>∀ v,S v W->je W K l qs (T.setIfInBounds d v)|none=>je W K l qs T
 | _,_,T=>K T
theorem jF{items:List QItem}{K:Array Value->World->Prop}{W:World}:∀(l:List Oper) (qs:List QItem) (k:Nat) (T:Array Value),l.length=qs.length->(∀ i,qs[i]? = items[k+i]?)->je W (fun T=>K T W) l qs T->zp (kg items) K W k l T
 | [],[],_,_,_,_,h=>h
 | [],_ :: _,_,_,hl,_,_=>by simp at hl
 | _ :: _,[],_,_,hl,_,_=>by simp at hl
 | o :: l,q :: qs,k,T,hl,hq,h=>by
  have e:kg items k=q.sp:=by
   have:=hq 0;rw[Dg]at this;unfold kg;rw[<- this];rfl
  have ih:∀ T,je W (fun T=>K T W) l qs T->zp (kg items) K W (k+1) l T:=fun T h=>jF l qs (k+1) T (by simpa using hl) (fun i=>by have:=hq (i+1);simpa[Dn,Ci 1 i]using this) h
  unfold zp;rw[e]
  cases q with
  | val v =>
   cases hd:o.dst with
   | none=>simp only[je,hd]at h;exact ih T h
   | some t=>simp only[je,hd]at h;intro u hu;have hu:u=v:=hu;subst hu;exact ih _ h
  | say S =>
   cases hd:o.dst with
   | none=>simp only[je,hd]at h;exact ih T h
   | some t=>simp only[je,hd]at h;intro u hu;exact ih _ (h u hu)
theorem qe{P:Program}{ops:Array Oper}{Q:Exit->Act->World->Prop}{id:Nat}{tmps:Array Value}{ds:List Deferred}{w:World}(n:Nat)(items:List QItem)(hm:P.follows .mixedOrders=true)
  (htail:(tailFit ops n&&quietFit ops tmps.size&&decide (n<=ops.size)&&decide ((ops.toList.take n).length=items.length))=true) (hmono:itemsMono items) (hall:allItems P ops (ops.toList.take n) items tmps w (ops.toList.take n) items)
  (hdone:∀ W,Aa w W->je W (fun T=>wpList P ops Q (ops.toList.drop n) ⟨T,ds⟩ W) (ops.toList.take n) items tmps):(Code.region id ops true).wp P Q ⟨tmps,ds⟩ w:=by
 simp only[AV,decide_eq_true_eq]at htail;exact jaL n (kg items) hm hmono.get htail.1.2 htail.1.1.1 htail.1.1.2 (allItems.quiet _ _ 0 hall (fun i=>by simp)) fun W hW=>jF _ _ 0 _ htail.2 (fun i=>by simp) (hdone W hW)
def kbC(n:Nat)(o:Obj):zY:=fun v W=>∃ b,v=.pointer (some ⟨b,0,none⟩)/\n<=b/\Row W b o
theorem kac(n:Nat)(o:Obj):zaH (kbC n o):=fun v W W' ⟨b,e,hb,hr⟩ hB=>⟨b,e,hb,Ae hr hB⟩
theorem zbW{w X:World}(h:Aa w X)(o:Obj):kbC w.heap.size o (.pointer (some ⟨X.heap.size,0,none⟩)) (X.alloc o)/\Below X.heap.size X (X.alloc o):=⟨⟨X.heap.size,rfl,h.size,qp _ _⟩,(Au _ _).alloc (Am _) _⟩
theorem qi0{p:Prop}(h:p:=by intro ρ X qX qc qg qf qt qd;simp[qj,kg,QItem.sp,Region.binds]at qd;simp[Region.wanted,jf,yi,QItem.sp,execOp,go_sem,vg,qc,qd,qt,Au]):p:=h
theorem qif{p q:Prop}(y:q)(h:q->p:=by intro y ρ X qX qc qg qf qt qd;simp[qj,kg,QItem.sp,Region.binds]at qd;simp[Region.wanted,jf,yi,QItem.sp,execOp,go_sem,vg,qc,qd,qt,Au,y]):p:=h y
theorem qi1{p:Prop}{q:World->Prop}{w:World}(y:∀ X,Aa w X->q X)
  (h:(∀ X,Aa w X->q X)->p:=by intro y ρ X qX qc qg qf qt qd;simp[qj,kg,QItem.sp,Region.binds]at qd;have y':=y X qX;clear y;simp[Region.wanted,jf,yi,QItem.sp,execOp,go_sem,vg,qc,qd,qt,Au,y']):p:=h y
theorem qi2{p:Prop}{P:Program}{F:FuncId}{args:Array Value}{R:World->Ending->World->Prop}{w:World}(y:∀ X,Aa w X->Calls P F args X (R X))
  (h:(∀ X,Aa w X->Calls P F args X (R X))->p:=by intro y ρ X qX qc qg qf qt qd;simp[qj,kg,QItem.sp,Region.binds]at qd;simp[Region.wanted,jf,yi,QItem.sp,execOp,go_sem,vg,qc,qd,qt,qf];refine⟨Au _ _,(y X qX).mono ?_⟩;rintro e Y⟨rfl,h1⟩;exact⟨_,rfl,rfl,h1⟩):p:=h y
theorem qi3{p:Prop}{P:Program}{F:FuncId}{args:Array Value}{R:World->Ending->World->Prop}{w:World}(y:∀ X,Aa w X->Calls P F args X (R X))
  (h:(∀ X,Aa w X->Calls P F args X (R X))->p:=by intro y ρ X qX qc qg qf qt qd;simp[qj,kg,QItem.sp,Region.binds]at qd;simp[Region.wanted,jf,yi,QItem.sp,execOp,go_sem,vg,qc,qd,qt,qf];refine⟨Au _ _,(y X qX).mono ?_⟩;rintro e Y⟨v,rfl,hs,h1⟩;exact⟨_,rfl,hs,h1⟩):p:=h y
theorem qia{p:Prop}(h:p:=by intro ρ X qX qc qg qf qt qd;simp[Region.wanted,jf,yi,QItem.sp,execOp,go_sem,vg];exact zbW qX _):p:=h
theorem ka5{n:Int}(h:jo n)(w:World)(he:Env w):Calls prog 135 #[.int .i64 n] w (kaL n w):=jbh n h.1 h.2 w he.tab
theorem zaN{n:Int}(h:jo n):Fits n:=by
 unfold Fits;have h1:n.natAbs<10^19:=by have:=h.1;have:=h.2;omega
 exact AG h1 (Bm dd dd)
theorem qof{n d:Int}(hn:jo n)(hd:jo d)(hd0:0<d)(w:World)(he:Env w):Calls prog 85 #[.int .i64 n,.int .i64 d] w (QOk (Rat.divInt n d) w):=by
 have hB:=Ab w;have MN:=fun W (h:Env W)=>ka5 hn W h
 have MD:=fun W (h:Env W)=>ka5 hd W h
 have MK:=fun W (h:Env W)=>kb2 (qq n) (qq d) (zaN hn) (zaN hd) oo W h
 unfold kaL at MN MD;unfold QOk Q at MK;unfold QOk Q;generalize Rat.divInt n d=q at *;generalize S n=sn at *;generalize S d=sd at *;clear hd0;go_enter func85,ntmps85;go_wp2_with fail;have d0_o:w.heap.size<=w.heap.size:=by have:=hB.size;omega
 have sB:=hB.size;refine za (fun X=>Aa w X/\Row X w.heap.size (.cells #[.string ⟨#[]⟩,.string ⟨#[]⟩] 23)) ⟨BW,RW⟩ ?_;clear hB sB;rintro V1⟨hB,ro⟩;have Fo:∀ X,Row X w.heap.size (.cells #[.string ⟨#[]⟩,.string ⟨#[]⟩] 23)->(w.heap.size<X.heap.size/\X.cell? ⟨w.heap.size,0,none⟩=some (.string ⟨#[]⟩)/\X.cell? ⟨w.heap.size,1,none⟩=some (.string ⟨#[]⟩)/\X.frozen? ⟨w.heap.size,0,none⟩=false/\X.frozen? ⟨w.heap.size,1,none⟩=false):=fun X h=>⟨h.1,Af h 0 rfl,Af h 1 rfl,frozen_of_row _ _ 0 _ _ h.2,frozen_of_row _ _ 1 _ _ h.2⟩
 have so:=Fo _ ro;refine(MN _ (he.below hB)).mono ?_;rintro e W2⟨rfl,h1⟩;clear so;replace hB:=Em hB h1;replace ro:=Ae ro h1;clear h1;have so:=Fo _ ro;go_wp2_with fail;refine(MD _ (he.below hB)).mono ?_;rintro e W3⟨rfl,h1⟩;clear so;replace hB:=Em hB h1;replace ro:=Ae ro h1;clear h1;have so:=Fo _ ro;go_wp2_with fail;refine(MK _ (he.below hB)).mono ?_;rintro e W4⟨rfl,h1⟩;clear so;replace hB:=Em hB h1;replace ro:=Ae ro h1;clear h1;have so:=Fo _ ro;go_wp2_with fail;have sB:=hB.size;refine vc (fun X=>Aa w X/\Row X w.heap.size (.cells #[.string (S q.num),.string (S (q.den:Int))] 23)) ⟨BW,RW⟩ ?_;clear ro so hB sB;rintro V5⟨hB,ro⟩;clear Fo;have Fo:∀ X,Row X w.heap.size (.cells #[.string (S q.num),.string (S (q.den:Int))] 23)->(w.heap.size<X.heap.size/\X.cell? ⟨w.heap.size,0,none⟩=some (.string (S q.num))/\X.cell? ⟨w.heap.size,1,none⟩=some (.string (S (q.den:Int)))/\X.frozen? ⟨w.heap.size,0,none⟩=false/\X.frozen? ⟨w.heap.size,1,none⟩=false):=fun X h=>⟨h.1,Af h 0 rfl,Af h 1 rfl,frozen_of_row _ _ 0 _ _ h.2,frozen_of_row _ _ 1 _ _ h.2⟩
 have so:=Fo _ ro;refine bodyPost_ret (v:=.tuple #[.agg #[.string (S q.num),.string (S (q.den:Int))],.int .i64 0]) ?res rfl ⟨rfl,hB⟩
 case res=>simp[results,results85,go_sem,so]
def PV(p:Pt):Value:=.agg #[.int .i64 (p.t:Int),.string (S p.iv.lo.num),.string (S (p.iv.lo.den:Int)),.string (S p.iv.hi.num),.string (S (p.iv.hi.den:Int))]
theorem zcR(a:Iv)(ha:IDig 200 a)(w:World)(he:Env w):Calls prog 166 #[I a] w (qa (decide (a.lo<=a.hi)) w):=by
 have hB:=Ab w;have h1:=fun W (h:Env W)=>qK a.lo ha.1 W h
 have h2:=fun W (h:Env W)=>qK a.hi ha.2 W h
 have h3:=fun W (h:Env W)=>kP a.lo a.hi ha.1 ha.2 W h
 have dc:∀ c,decide (zE a.lo a.hi<=0)=c->decide (a.lo<=a.hi)=c:=fun c h=>by rw[<- h];exact decide_eq_decide.2 cmpQ_le.symm
 generalize decide (a.lo<=a.hi)=c at *;generalize zE a.lo a.hi=g at *;show Calls prog 166 #[.agg #[.string (S a.lo.num),.string (S (a.lo.den:Int)),.string (S a.hi.num),.string (S (a.hi.den:Int))]] w _;go_enter func166,ntmps166;go_wp2_with fail;have sB:=hB.size;refine za (fun X=>Aa w X/\Row X w.heap.size (oI a.lo a.hi)) ⟨yJ,C2⟩ ?_;clear hB sB;rintro V1⟨hB,ra⟩;have sa:=AM ra;refine(h1 _ (he.below hB)).mono ?_;rintro e W2⟨rfl,h1⟩;clear sa;replace hB:=Em hB h1;replace ra:=Ae ra h1;clear h1;have sa:=AM ra;go_wp2_with fail;refine(h2 _ (he.below hB)).mono ?_;rintro e W3⟨rfl,h1⟩;clear sa;replace hB:=Em hB h1;replace ra:=Ae ra h1;clear h1;have sa:=AM ra;go_wp2_with fail;refine(h3 _ (he.below hB)).mono ?_;rintro e W4⟨rfl,h1⟩;clear sa;replace hB:=Em hB h1;replace ra:=Ae ra h1;clear h1;have sa:=AM ra;go_wp2;go_ret;exact⟨by rw[dc _ rfl];rfl,hB⟩
theorem qcL:Q 0=.agg #[.string ⟨#[48]⟩,.string ⟨#[49]⟩]:=by
 show Value.agg #[.string (S 0),.string (S 1)]=_;rw[kbM,vcw]
theorem qcR(w:World):Calls prog 129 #[] w fun e w'=>e=.returned (Q 0)/\Aa w w':=by
 have hB:=Ab w;rw[qcL];go_enter func129,ntmps129;go_wp2;have sB:=hB.size;refine vc (fun X=>Aa w X/\Row X w.heap.size (.cells #[.string ⟨#[48]⟩,.string ⟨#[49]⟩] 23)) ⟨yJ,C2⟩ ?_;clear hB sB;rintro V1⟨hB,rz⟩;have sz:=Av rz;refine bodyPost_ret (v:=.agg #[.string ⟨#[48]⟩,.string ⟨#[49]⟩]) ?res rfl ⟨rfl,hB⟩
 case res=>simp[results,results129,go_sem,sz]
end Go.Proofs.YtdiecekagiledaaGreatDoor
