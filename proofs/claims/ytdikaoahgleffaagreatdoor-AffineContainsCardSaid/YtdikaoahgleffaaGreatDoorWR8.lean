/-
 The fixed examples that each affine law checks first: sane answers true. The affine laws' own made. The reference implementation of fractions: Compare. The reference of affine: its Calculator, Valid, values of sources, where all is well.
-/
import Derived.Test.YtdikaoahgleffaaGreatDoorWAAt
import Derived.Test.YtdikaoahgleffaaGreatDoorWAExample
import Derived.Test.YtdikaoahgleffaaGreatDoorWARange
import Derived.Test.YtdikaoahgleffaaGreatDoorWEnv8
import Derived.Test.YtdikaoahgleffaaGreatDoorWSane8
set_option linter.unusedSimpArgs false
set_option linter.unusedVariables false
set_option maxRecDepth 100000
set_option maxHeartbeats 16000000
namespace Go.Proofs.YtdikaoahgleffaaGreatDoor
open Go Go.RowKit Go.Lib Go.Shelf
theorem eA_d2:FDig 200 eA:=eA_dig.mono (by decide)
theorem eB_d2:FDig 200 eB:=eB_dig.mono (by decide)
theorem rat8 {n d:Int} {q:Rat} (h:Rat.divInt n d=q) (hn:IsInt n:=by decide) (hd:IsInt d:=by decide) (hd0:0<d:=by decide):RatioIs n d q:=ratio_is h hn hd hd0
theorem s_AR (W:World) (p:Option Addr) (c:Nat) (h:TAt 55 W p eA.t) (H:Env W):Calls Tryz.prog 17 #[FV eA p c] W (IvQ (17 / 2) (23 / 2) W):=by
 have:=arange eA_ok eA_rangeF (by decide) p c W h H;rw [eA_range] at this;exact this
theorem s_AA (W:World) (p:Option Addr) (c g:Nat) (h:TAt 55 W p eA.t) (r:Row W g (oT 1 (1:Rat))) (H:Env W):Calls Tryz.prog 22 #[FV eA p c,.slice (some ⟨g,0,none⟩) 1 1] W (IvQ (21 / 2) (23 / 2) W):=by
 have:=aat eA_atF eV_ok eA_ok eA_d2 p c (some ⟨g,0,none⟩) 1 W h (terms1 r) H;rw [eA_at] at this;exact this
theorem s_SB (W:World) (p:Option Addr) (c:Nat) (q:Option Addr) (d:Nat) (h:TAt 55 W p eA.t) (h2:TAt 55 W q eB.t) (H:Env W):Calls Tryz.prog 12 #[FV eA p c,FV eB q d] W (FRes eD W):=by
 have:=asub eAB_combF eA_ok eB_ok eA_d2 eB_d2 p c q d W h h2 H;rw [eAB_comb] at this;exact this
theorem s_SA (W:World) (p:Option Addr) (c:Nat) (q:Option Addr) (d:Nat) (h:TAt 55 W p eA.t) (h2:TAt 55 W q eA.t) (H:Env W):Calls Tryz.prog 12 #[FV eA p c,FV eA q d] W (FRes (constF 0) W):=by
 have:=asub eAA_combF eA_ok eA_ok eA_d2 eA_d2 p c q d W h h2 H;rw [eAA_comb] at this;exact this
theorem s_MM (W:World) (p:Option Addr) (c:Nat) (q:Option Addr) (d:Nat) (h:TAt 55 W p eA.t) (h2:TAt 55 W q eB.t) (H:Env W):Calls Tryz.prog 16 #[FV eA p c,FV eB q d] W (FRes eM W):=by
 have:=amul eAB_mulF eA_ok eB_ok eA_d2 eB_d2 p c q d W h h2 H;rw [eAB_mul] at this;exact this
theorem s_IV (W:World) (q:Option Addr) (d:Nat) (h2:TAt 55 W q eB.t) (H:Env W):Calls Tryz.prog 18 #[FV eB q d] W (FRes eI W):=by
 have:=ainverse eB_invF eB_ok q d W h2 H;rw [eB_inv] at this;exact this
theorem s_CV (W:World) (p:Option Addr) (c:Nat) (q:Option Addr) (d g:Nat) (h:TAt 55 W p eA.t) (h2:TAt 55 W q eB.t)
  (r:Row W g (.cells #[.int .i64 1,.string (S (1 / 3:Rat).num),.string (S ((1 / 3:Rat).den:Int)),.int .i64 2,.string (S (1 / 3:Rat).num),.string (S ((1 / 3:Rat).den:Int))] 58)) (H:Env W):Calls Tryz.prog 25 #[FV eA p c,FV eB q d,.slice (some ⟨g,0,none⟩) 2 2] W (CovRes (2 / 3) W):=by
 have:=acov eS_covF eS_ok eS_knows eA_ok eB_ok eA_d2 eB_d2 p c q d (some ⟨g,0,none⟩) 2 W h h2 (terms2 r) H;rw [eS_cov] at this;exact this
theorem s_SR (W:World) (H:Env W):Calls Tryz.prog 26 #[FV (constF 4) none 0,.int .i64 2] W (FRes (constF 2) W):=by
 have:=asqrt c4_sqrtF (const_ok 4) none 0 W (TAt.nil _ _) H;rw [c4_sqrt] at this;exact this
theorem s_VZ (W:World) (H:Env W):Calls Tryz.prog 23 #[.agg #[.string ⟨#[]⟩,.string ⟨#[]⟩,.slice none 0 0,.string ⟨#[]⟩,.string ⟨#[]⟩]] W (BoolOk false W) :=
 avalid (l:=[]) (n:=0) RK.zero RK.zero (ot:=fun _=>none) (fun i hi=>absurd hi (by omega)) none 0 rfl W (UAt.nil _ _) H
theorem s_K (q:Rat) (h:QDig 9 q) (W:World) (H:Env W):Calls Tryz.prog 27 #[Q q] W (ConstZ 0 q W):=aconst (h.mono (by decide)) W H
theorem sane8 (w:World) (he:Env w):Calls Tryz.prog 4 #[] w (BoolOk true w) :=
 sane8_0 (A:=eA) (B:=eB) (D:=eD) (N:=constF 0) (M:=eM) (J:=eI) (Z:=constF 2) (z:=0)
  (rat8 (q:=17 / 2) (by decide +kernel)) (rat8 (q:=23 / 2) (by decide +kernel)) (rat8 (q:=21 / 2) (by decide +kernel)) (rat8 (q:=0) (by decide +kernel)) (rat8 (q:=6) (by decide +kernel)) (rat8 (q := -1) (by decide +kernel)) (rat8 (q:=1 / 2) (by decide +kernel))
  (rat8 (q:=40) (by decide +kernel)) (rat8 (q:=24) (by decide +kernel)) (rat8 (q:=2) (by decide +kernel)) (rat8 (q:=3) (by decide +kernel)) (rat8 (q:=1 / 4) (by decide +kernel)) (rat8 (q := -1 / 6) (by decide +kernel)) (rat8 (q:=1 / 12) (by decide +kernel))
  (rat8 (q:=2 / 3) (by decide +kernel)) (rat8 (q:=1) (by decide +kernel)) (rat8 (q:=1 / 3) (by decide +kernel)) (rat8 (q:=4) (by decide +kernel))
  aexample s_AR s_AA s_SB s_SA s_MM s_IV s_CV (s_K 4 (qd (by decide +kernel))) s_SR (s_K 0 (qd (by decide +kernel))) (s_K 2 (qd (by decide +kernel)))
  (fun W p c h=>asame (f:=constF 0) (by decide) p none c 0 W h (TAt.nil _ _)) (fun W p c h=>asame (f:=constF 2) (by decide) p none c 0 W h (TAt.nil _ _))
  (fun W p c g h r=>asame (f:=eD) (by decide) p (some ⟨g,0,none⟩) c 2 W h (terms2 r)) (fun W p c g h r=>asame (f:=eM) (by decide) p (some ⟨g,0,none⟩) c 2 W h (terms2 r)) (fun W p c g h r=>asame (f:=eI) (by decide) p (some ⟨g,0,none⟩) c 1 W h (terms1 r))
  (fun W p c h H=>avalid_ok eA_ok eA_d2 p c W h H) s_VZ w he
end Go.Proofs.YtdikaoahgleffaaGreatDoor
namespace Go.Proofs.YtdikaoahgleffaaGreatDoor
open Go Go.RowKit Go.Lib Go.Shelf
theorem lmade8 {c0 r0:Int} (hc:IsInt c0) (hr:IsInt r0) (x:Nat→Int) (hx:∀ i,i<6→IsInt (x i)) (w:World):Calls Tryz.prog 5 #[.agg #[.int .i64 c0,.int .i64 r0,.int .i64 (x 0),.int .i64 (x 1),.int .i64 (x 2),.int .i64 (x 3),.int .i64 (x 4),.int .i64 (x 5)]] w (FIs (mForm c0 r0 x) w):=by
 have hB:Below w.heap.size w w:=Below.refl _ _;have M:=fun W=>r8made hc hr x hx W
 unfold FIs;unfold FIs at M;generalize mForm c0 r0 x=G at *;unfold FV at *;clear hc hr hx;go_enter Tryz.func5, Tryz.ntmps5;go_wp2_with fail;have d0_o:w.heap.size≤w.heap.size+1:=by have:=hB.size;omega
 have sB:=hB.size;refine world_cut (fun X=>Below w.heap.size w X∧Row X (w.heap.size+1) oF0) ⟨BW,RW8⟩ ?_;clear hB sB;rintro V1 ⟨hB,ro⟩;have so:=RFz5 ro;refine (M _).mono ?_;rintro e W2 ⟨p,c,hT,rfl,h1⟩;have stp:=St1 hB h1 ro;clear hB h1 ro so;obtain ⟨hB,ro⟩:=stp;have so:=RFz5 ro;go_wp2_with fail;have sB:=hB.size;refine post_cut (fun X=>Below w.heap.size w X∧Row X (w.heap.size+1) (oF G.c G.r p G.t.length c)∧TAt 55 X p G.t) ⟨BW,RW8,TW⟩ ?_;clear ro so hB sB hT;rintro V3 ⟨hB,ro,hT⟩;have so:=RFz5 ro;refine bodyPost_ret (v := .agg #[.string (S G.c.num),.string (S (G.c.den:Int)),.slice p G.t.length c,.string (S G.r.num),.string (S (G.r.den:Int))]) ?res rfl ⟨p,c,hT,rfl,hB⟩
 case res=>simp [results,Tryz.results5, go_sem,so]
end Go.Proofs.YtdikaoahgleffaaGreatDoor
namespace Go.Proofs.YtdikaoahgleffaaGreatDoor
open Go Go.RowKit Go.Lib Go.Shelf
theorem zero_yes (a:ByteArray) (h:(a.toList == [48])=true) (w:World):Calls Tryz.prog 183 #[.string a] w fun e w'=>e = .returned (.string a)∧w'=w:=by
 go_enter Tryz.func183, Tryz.ntmps183;go_wp2;go_ret;exact ⟨rfl,rfl⟩
theorem zero_no (a:ByteArray) (h:(a.toList == [48])=false) (w:World):Calls Tryz.prog 183 #[.string a] w fun e w'=>e = .returned (.string ⟨#[49]⟩)∧w'=w:=by
 go_enter Tryz.func183, Tryz.ntmps183;go_wp2;go_ret;exact ⟨rfl,rfl⟩
theorem rqcompare (a b:Rat) (ha:QDig 200 a) (hb:QDig 200 b) (w:World):Calls Tryz.prog 147 #[Q a,Q b] w (CmpOk (cmpQ a b) w):=by
 have I0:CmpInv (cmpQ a b) 1 a.num a.den b.num b.den:=⟨den_pos a,den_pos b,.inl rfl,by rw [Int.one_mul,cmpQ_parts],ha.1,ha.2,hb.1,hb.2⟩
 have QV1:=fun W=>rqvalid a ha W
 have QV2:=fun W=>rqvalid b hb W
 have hB:Below w.heap.size w w:=Below.refl _ _;clear ha hb;generalize cmpQ a b=g at *;show Calls Tryz.prog 147 #[.agg #[.string (S a.num),.string (S (a.den:Int))],.agg #[.string (S b.num),.string (S (b.den:Int))]] w _;go_enter Tryz.func147, Tryz.ntmps147;go_wp2_with fail;have sB:=hB.size;refine world_cut (fun X=>Below w.heap.size w X∧Row X w.heap.size (.cells #[.string (S a.num),.string (S (a.den:Int))] 27)∧Row X (w.heap.size+1) (.cells #[.string (S b.num),.string (S (b.den:Int))] 27)) ⟨C1_hB,C2,C2⟩ ?_;clear hB sB;rintro V1 ⟨hB,ra,rb⟩;have sa:=Row.cells2 ra;have sb:=Row.cells2 rb;refine (QV1 _).mono ?_;rintro e W2 ⟨rfl,h1⟩;clear sa sb;replace hB:=hB.trans (h1.mono hB.size);replace ra:=Row.below ra h1;replace rb:=Row.below rb h1;clear h1;have sa:=Row.cells2 ra;have sb:=Row.cells2 rb;go_wp2_with fail;refine (QV2 _).mono ?_;rintro e W3 ⟨rfl,h1⟩;clear sa sb;replace hB:=hB.trans (h1.mono hB.size);replace ra:=Row.below ra h1;replace rb:=Row.below rb h1;clear h1;have sa:=Row.cells2 ra;have sb:=Row.cells2 rb;go_wp2_with fail;clear ra rb sa sb QV1 QV2;go_loopw [7,8,9,10,11] (fun v7 v8 v9 v10 v11 wr=>∃ (s n d m e:Int),v7 = .int .i64 s∧v8 = .string (S n)∧v9 = .string (S d)∧v10 = .string (S m)∧v11 = .string (S e)∧CmpInv g s n d m e∧Below w.heap.size w wr) (fun _ _ v9 _ _ _=>match v9 with | .string t=>(zOf t.data.toList).natAbs | _=>0)
 case atStart=>exact ⟨1,a.num,a.den,b.num,b.den,rfl,rfl,rfl,rfl,rfl,I0,hB⟩
 case round =>
  clear hB I0;obtain ⟨s,n,d,m,e,rfl,rfl,rfl,rfl,rfl,HI,hB⟩:=hrel;have hd:=Lib.hid HI.hd;have hee:=Lib.hid HI.he;have V:=Lib.hid HI.val;have hs:=Lib.hid HI.hs;obtain ⟨fn,fd,fm,fe⟩:Fits n∧Fits d∧Fits m∧Fits e:=⟨HI.fn,HI.fd,HI.fm,HI.fe⟩
  have sl : -1≤s∧s≤1:=by rcases hs.out with h | h <;> omega
  obtain ⟨sl1,sl2⟩:=sl;clear HI;obtain ⟨p,hp⟩:∃ p,n / d=p:=⟨_,rfl⟩
  obtain ⟨r,hr⟩:∃ r,n % d=r:=⟨_,rfl⟩
  obtain ⟨q,hq⟩:∃ q,m / e=q:=⟨_,rfl⟩
  obtain ⟨t,ht⟩:∃ t,m % e=t:=⟨_,rfl⟩
  have fp:Fits p:=hp ▸ dig_fits_div fn d;have fq:Fits q:=hq ▸ dig_fits_div fm e;have fr:Fits r:=hr ▸ dig_fits_mod fd (by have:=hd.out;omega);have ft:Fits t:=ht ▸ dig_fits_mod fe (by have:=hee.out;omega);have CR:=Lib.hid (cmp_round (n:=n) (m:=m) hd.out hee.out);rw [hp,hr,hq,ht] at CR;have P1:=Lib.hid hp;have P2:=Lib.hid hr;have P3:=Lib.hid hq;have P4:=Lib.hid ht;clear hp hr hq ht;have in_:=is_S n;have id_:=is_S d;have im:=is_S m;have ie:=is_S e;have ip:=is_S p;have iq:=is_S q;go_wp2_with fail;refine (rdivS in_ id_ P1 P2 fn fd (Lib.hid (by have:=hd.out;omega)) _).mono ?_;rintro e1 W1 ⟨rfl,h1⟩;replace hB:=hB.trans (h1.mono hB.size);clear h1;go_wp2_with fail;refine (rdivS im ie P3 P4 fm fe (Lib.hid (by have:=hee.out;omega)) _).mono ?_;rintro e1 W2 ⟨rfl,h1⟩;replace hB:=hB.trans (h1.mono hB.size);clear h1;by_cases c0:p=q
  ·have C0:=Lib.hid c0;have Z:Hid (cmpZ p q=0):=Lib.hid (cmpZ_eq c0);clear c0;go_wp2_with fail;refine (rcmpS ip iq Z fp fq _).mono ?_;rintro e1 W3 ⟨rfl,h1⟩;replace hB:=hB.trans (h1.mono hB.size);clear h1;by_cases r0:r=0
   ·have z1:=S_eq0 r0;by_cases t0:t=0
    ·have z2:=S_eq0 t0;have CC:Hid (cmpZ 0 0=0):=Lib.hid (by decide);obtain ⟨v,hv⟩:∃ v,s * 0=v:=⟨_,rfl⟩
     have G:Hid (g=v):=Lib.hid (by rw [← hv,← V.out,CR.out.2.1 C0.out r0 t0]);have vl : -1≤v∧v≤1:=by rw [← hv];rcases hs.out with h | h <;> omega
     obtain ⟨vl1,vl2⟩:=vl;have ix:Is (S r) 0:=(by rw [r0];exact is_S 0)
     have iy:Is (S t) 0:=(by rw [t0];exact is_S 0)
     clear r0 t0;generalize S r=sr at *;generalize S t=st at *;go_wp2_with fail;refine (zero_yes sr z1 _).mono ?_;rintro e Wz ⟨rfl,rfl⟩;go_wp2_with fail;refine (zero_yes st z2 _).mono ?_;rintro e Wz ⟨rfl,rfl⟩;go_wp2_with fail;refine (rcmpS ix iy CC (fits_lit (by decide)) (fits_lit (by decide)) _).mono ?_;rintro e W5 ⟨rfl,h1⟩;replace hB:=hB.trans (h1.mono hB.size);go_wp2;go_ret;exact ⟨by rw [G.out];rfl,hB⟩
    ·have z2:=S_ne0 t0;have CC:Hid (cmpZ 0 1 = -1):=Lib.hid (by decide);obtain ⟨v,hv⟩:∃ v,s * -1=v:=⟨_,rfl⟩
     have G:Hid (g=v):=Lib.hid (by rw [← hv,← V.out,CR.out.2.2.1 C0.out r0 t0]);have vl : -1≤v∧v≤1:=by rw [← hv];rcases hs.out with h | h <;> omega
     obtain ⟨vl1,vl2⟩:=vl;have ix:Is (S r) 0:=(by rw [r0];exact is_S 0)
     have iy:Is ⟨#[49]⟩ 1:=is_lit (by decide) (by decide);clear r0 t0;generalize S r=sr at *;generalize S t=st at *;go_wp2_with fail;refine (zero_yes sr z1 _).mono ?_;rintro e Wz ⟨rfl,rfl⟩;go_wp2_with fail;refine (zero_no st z2 _).mono ?_;rintro e Wz ⟨rfl,rfl⟩;go_wp2_with fail;refine (rcmpS ix iy CC (fits_lit (by decide)) (fits_lit (by decide)) _).mono ?_;rintro e W5 ⟨rfl,h1⟩;replace hB:=hB.trans (h1.mono hB.size);go_wp2;go_ret;exact ⟨by rw [G.out];rfl,hB⟩
   ·have z1:=S_ne0 r0;by_cases t0:t=0
    ·have z2:=S_eq0 t0;have CC:Hid (cmpZ 1 0=1):=Lib.hid (by decide);obtain ⟨v,hv⟩:∃ v,s * 1=v:=⟨_,rfl⟩
     have G:Hid (g=v):=Lib.hid (by rw [← hv,← V.out,CR.out.2.2.2.1 C0.out r0 t0]);have vl : -1≤v∧v≤1:=by rw [← hv];rcases hs.out with h | h <;> omega
     obtain ⟨vl1,vl2⟩:=vl;have ix:Is ⟨#[49]⟩ 1:=is_lit (by decide) (by decide);have iy:Is (S t) 0:=(by rw [t0];exact is_S 0)
     clear r0 t0;generalize S r=sr at *;generalize S t=st at *;go_wp2_with fail;refine (zero_no sr z1 _).mono ?_;rintro e Wz ⟨rfl,rfl⟩;go_wp2_with fail;refine (zero_yes st z2 _).mono ?_;rintro e Wz ⟨rfl,rfl⟩;go_wp2_with fail;refine (rcmpS ix iy CC (fits_lit (by decide)) (fits_lit (by decide)) _).mono ?_;rintro e W5 ⟨rfl,h1⟩;replace hB:=hB.trans (h1.mono hB.size);go_wp2;go_ret;exact ⟨by rw [G.out];rfl,hB⟩
    ·have z2:=S_ne0 t0;have L:=Lib.hid (CR.out.2.2.2.2 C0.out r0 t0);clear r0 t0;obtain ⟨sr,hsr⟩:∃ x,x=S r:=⟨_,rfl⟩
     obtain ⟨st,hst⟩:∃ x,x=S t:=⟨_,rfl⟩
     rw [← hsr] at z1 ⊢;rw [← hst] at z2 ⊢;have HR:=Lib.hid hsr;have HT:=Lib.hid hst;clear hsr hst;go_wp2;obtain rfl:=HR.out;obtain rfl:=HT.out;obtain ⟨l1,l2,l3,l4,l5⟩:=L.out;have NI:CmpInv g (-s) d r e t:=⟨l1,l3,by rcases hs.out with h | h <;> omega,by rw [← V.out,l5];simp [Int.neg_mul,Int.mul_neg],fd,fr,fe,ft⟩
     go_roundw
     case rel=>exact ⟨-s,d,r,e,t,rfl,rfl,rfl,rfl,rfl,NI,hB⟩
     case measure =>
      simp only;rw [is_S r,is_S d,zOf_itoa,zOf_itoa];omega
  ·obtain ⟨c,hc⟩:∃ c,cmpZ p q=c:=⟨_,rfl⟩
   have Z:=Lib.hid hc;have n0:(c != 0)=true:=by
    rw [← hc];unfold cmpZ;split <;> (try split) <;> first | rfl | omega
   obtain ⟨v,hv⟩:∃ v,s * c=v:=⟨_,rfl⟩
   have G:Hid (g=v):=Lib.hid (by rw [← V.out,CR.out.1 c0,← hv,← hc];rfl);have vl : -1≤v∧v≤1:=by
    rw [← hv,← hc];unfold cmpZ;rcases hs.out with h | h <;> rw [h] <;> split <;> (try split) <;> omega
   obtain ⟨vl1,vl2⟩:=vl;clear c0 hc;go_wp2_with fail;refine (rcmpS ip iq Z fp fq _).mono ?_;rintro e1 W3 ⟨rfl,h1⟩;replace hB:=hB.trans (h1.mono hB.size);clear h1;generalize S r=sr at *;generalize S t=st at *;go_wp2;go_ret;exact ⟨by rw [G.out];rfl,hB⟩
end Go.Proofs.YtdikaoahgleffaaGreatDoor
namespace Go.Proofs.YtdikaoahgleffaaGreatDoor
open Go Go.RowKit Go.Lib Go.Shelf
attribute [local go_sem] normalQ
theorem r8whole {n:Int} {q:Rat} (hn:IsInt n) (e:Rat.divInt n 1=q) (w:World):Calls Tryz.prog 91 #[.int .i64 n] w (QIs q w):=by
 have hB:Below w.heap.size w w:=Below.refl _ _;have MO:=fun W=>rqof (n:=n) (d:=1) hn (by decide) (by decide) W
 rw [e] at MO;unfold QIs;unfold QOk Q at MO;unfold Q;clear hn e;go_enter Tryz.func91, Tryz.ntmps91;go_wp2_with fail;have d0_o:w.heap.size≤w.heap.size:=by have:=hB.size;omega
 have sB:=hB.size;refine world_cut (fun X=>Below w.heap.size w X∧Row X w.heap.size oR0) ⟨BW,RW8⟩ ?_;clear hB sB;rintro V1 ⟨hB,ro⟩;have so:=RFz2 ro;refine (MO _).mono ?_;rintro e W2 ⟨rfl,h1⟩;have stp:=St1 hB h1 ro;clear hB h1 ro so;obtain ⟨hB,ro⟩:=stp;have so:=RFz2 ro;go_wp2_with fail;have sB:=hB.size;refine post_cut (fun X=>Below w.heap.size w X∧Row X w.heap.size (oR q)) ⟨BW,RW8⟩ ?_;clear ro so hB sB;rintro V3 ⟨hB,ro⟩;have so:=RFz2 ro;refine bodyPost_ret (v := .agg #[.string (S q.num),.string (S (q.den:Int))]) ?res rfl ⟨rfl,hB⟩
 case res=>simp [results,Tryz.results91, go_sem,so]
theorem r8take (bc:Nat) (z1 z2:ByteArray) (w:World):Calls Tryz.prog 148 #[.pointer (some ⟨bc,0,none⟩),.agg #[.string z1,.string z2],.int .i64 0] w (fun e w'=>e = .returned (.agg #[.string z1,.string z2])∧Below w.heap.size w w'):=by
 have hB:Below w.heap.size w w:=Below.refl _ _;go_enter Tryz.func148, Tryz.ntmps148;go_wp2_with fail;have sB:=hB.size;refine post_cut (fun X=>Below w.heap.size w X∧Row X (w.heap.size+1) (.cells #[.string z1,.string z2] 27)) ⟨BW,RW8⟩ ?_;clear hB sB;rintro V1 ⟨hB,ro⟩;have so:=RFz2 ro;refine bodyPost_ret (v := .agg #[.string z1,.string z2]) ?res rfl ⟨rfl,hB⟩
 case res=>simp [results,Tryz.results148, go_sem,so]
theorem r8add (bc:Nat) {j k:Nat} {a b:Rat} (ha:QDig j a) (hb:QDig k b) (hjk:j+k+1≤200) (w:World):Calls Tryz.prog 93 #[.pointer (some ⟨bc,0,none⟩),Q a,Q b] w (QIs (a+b) w):=by
 have hB:Below w.heap.size w w:=Below.refl _ _;have M:=fun W=>rqadd ha hb hjk W
 generalize a+b=s at *;have MT:=fun W=>r8take bc (S s.num) (S (s.den:Int)) W
 unfold QIs;unfold QOk at M;unfold Q at *;clear ha hb hjk;go_enter Tryz.func93, Tryz.ntmps93;go_wp2_with fail;have d0_o:w.heap.size≤w.heap.size+1+1:=by have:=hB.size;omega
 have sB:=hB.size;refine world_cut (fun X=>Below w.heap.size w X∧Row X (w.heap.size+1+1) oR0) ⟨BW,RW8⟩ ?_;clear hB sB;rintro V1 ⟨hB,ro⟩;have so:=RFz2 ro;refine (M _).mono ?_;rintro e W2 ⟨rfl,h1⟩;have stp:=St1 hB h1 ro;clear hB h1 ro so;obtain ⟨hB,ro⟩:=stp;have so:=RFz2 ro;go_wp2_with fail;refine (MT _).mono ?_;rintro e W3 ⟨rfl,h1⟩;have stp:=St1 hB h1 ro;clear hB h1 ro so;obtain ⟨hB,ro⟩:=stp;have so:=RFz2 ro;go_wp2_with fail;have sB:=hB.size;refine post_cut (fun X=>Below w.heap.size w X∧Row X (w.heap.size+1+1) (oR s)) ⟨BW,RW8⟩ ?_;clear ro so hB sB;rintro V4 ⟨hB,ro⟩;have so:=RFz2 ro;refine bodyPost_ret (v := .agg #[.string (S s.num),.string (S (s.den:Int))]) ?res rfl ⟨rfl,hB⟩
 case res=>simp [results,Tryz.results93, go_sem,so]
theorem r8sub (bc:Nat) {j k:Nat} {a b:Rat} (ha:QDig j a) (hb:QDig k b) (hjk:j+k+1≤200) (w:World):Calls Tryz.prog 149 #[.pointer (some ⟨bc,0,none⟩),Q a,Q b] w (QIs (a - b) w):=by
 have hB:Below w.heap.size w w:=Below.refl _ _;have M:=fun W=>rqsub ha hb hjk W
 generalize a - b=s at *;have MT:=fun W=>r8take bc (S s.num) (S (s.den:Int)) W
 unfold QIs;unfold QOk at M;unfold Q at *;clear ha hb hjk;go_enter Tryz.func149, Tryz.ntmps149;go_wp2_with fail;have d0_o:w.heap.size≤w.heap.size+1+1:=by have:=hB.size;omega
 have sB:=hB.size;refine world_cut (fun X=>Below w.heap.size w X∧Row X (w.heap.size+1+1) oR0) ⟨BW,RW8⟩ ?_;clear hB sB;rintro V1 ⟨hB,ro⟩;have so:=RFz2 ro;refine (M _).mono ?_;rintro e W2 ⟨rfl,h1⟩;have stp:=St1 hB h1 ro;clear hB h1 ro so;obtain ⟨hB,ro⟩:=stp;have so:=RFz2 ro;go_wp2_with fail;refine (MT _).mono ?_;rintro e W3 ⟨rfl,h1⟩;have stp:=St1 hB h1 ro;clear hB h1 ro so;obtain ⟨hB,ro⟩:=stp;have so:=RFz2 ro;go_wp2_with fail;have sB:=hB.size;refine post_cut (fun X=>Below w.heap.size w X∧Row X (w.heap.size+1+1) (oR s)) ⟨BW,RW8⟩ ?_;clear ro so hB sB;rintro V4 ⟨hB,ro⟩;have so:=RFz2 ro;refine bodyPost_ret (v := .agg #[.string (S s.num),.string (S (s.den:Int))]) ?res rfl ⟨rfl,hB⟩
 case res=>simp [results,Tryz.results149, go_sem,so]
theorem r8mul (bc:Nat) {j k:Nat} {a b:Rat} (ha:QDig j a) (hb:QDig k b) (hjk:j+k≤200) (w:World):Calls Tryz.prog 94 #[.pointer (some ⟨bc,0,none⟩),Q a,Q b] w (QIs (a * b) w):=by
 have hB:Below w.heap.size w w:=Below.refl _ _;have M:=fun W=>rqmul ha hb hjk W
 generalize a * b=s at *;have MT:=fun W=>r8take bc (S s.num) (S (s.den:Int)) W
 unfold QIs;unfold QOk at M;unfold Q at *;clear ha hb hjk;go_enter Tryz.func94, Tryz.ntmps94;go_wp2_with fail;have d0_o:w.heap.size≤w.heap.size+1+1:=by have:=hB.size;omega
 have sB:=hB.size;refine world_cut (fun X=>Below w.heap.size w X∧Row X (w.heap.size+1+1) oR0) ⟨BW,RW8⟩ ?_;clear hB sB;rintro V1 ⟨hB,ro⟩;have so:=RFz2 ro;refine (M _).mono ?_;rintro e W2 ⟨rfl,h1⟩;have stp:=St1 hB h1 ro;clear hB h1 ro so;obtain ⟨hB,ro⟩:=stp;have so:=RFz2 ro;go_wp2_with fail;refine (MT _).mono ?_;rintro e W3 ⟨rfl,h1⟩;have stp:=St1 hB h1 ro;clear hB h1 ro so;obtain ⟨hB,ro⟩:=stp;have so:=RFz2 ro;go_wp2_with fail;have sB:=hB.size;refine post_cut (fun X=>Below w.heap.size w X∧Row X (w.heap.size+1+1) (oR s)) ⟨BW,RW8⟩ ?_;clear ro so hB sB;rintro V4 ⟨hB,ro⟩;have so:=RFz2 ro;refine bodyPost_ret (v := .agg #[.string (S s.num),.string (S (s.den:Int))]) ?res rfl ⟨rfl,hB⟩
 case res=>simp [results,Tryz.results94, go_sem,so]
theorem r8around (bc:Nat) {j k:Nat} {m b:Rat} (hm:QDig j m) (hb:QDig k b) (hjk:j+k+1≤200) (w:World) (rk:Row w bc (.cells #[.bool false] 118)):Calls Tryz.prog 96 #[.pointer (some ⟨bc,0,none⟩),Q m,Q b] w (IvOk ⟨m - b,m+b⟩ w):=by
 have hB:Below w.heap.size w w:=Below.refl _ _;have MS:=fun W=>r8sub bc hm hb hjk W
 have MA:=fun W=>r8add bc hm hb hjk W
 unfold IvOk I;generalize m - b=x at *;generalize m+b=y at *;unfold QIs at *;unfold Q at *;clear hm hb hjk;have sk:=RF1 rk;go_enter Tryz.func96, Tryz.ntmps96;go_wp2_with fail;have dk_o:bc<w.heap.size+1+1:=by omega
 have d0_o:w.heap.size≤w.heap.size+1+1:=by have:=hB.size;omega
 have sB:=hB.size;refine wp_cut (kp1 hB rk fun X=>Row X w.heap.size (oR m)∧Row X (w.heap.size+1) (oR b)∧Row X (w.heap.size+1+1) oI0) ⟨BW,RW8,RW8,RW8,RW8⟩ ?_;unfold kp1;clear rk sk hB sB;rintro V1 ⟨hB,rk,rx,ry,ro⟩;have sk:=RF1 rk;have sx:=RF2 rx;have sy:=RF2 ry;have so:=RFz4 ro;have dk_u:=rk.1;have dx_u:=rx.1;have dy_u:=ry.1;have do_u:=ro.1;have d0_u:=hB.size;refine wp_region_items 10 [.val (.pointer (some ⟨bc,0,none⟩)),.val (.agg #[.string (S m.num),.string (S (m.den:Int))]),.val (.agg #[.string (S b.num),.string (S (b.den:Int))]),.val (.agg #[.string (S x.num),.string (S (x.den:Int))]),.val (.pointer (some ⟨bc,0,none⟩)),.val (.agg #[.string (S m.num),.string (S (m.den:Int))]),.val (.agg #[.string (S b.num),.string (S (b.den:Int))]),.val (.agg #[.string (S y.num),.string (S (y.den:Int))]),.val (.agg #[.string (S x.num),.string (S (x.den:Int)),.string (S y.num),.string (S (y.den:Int))]),.say (fresh _ oI0)] (by kernel_rfl) (by kernel_rfl) ⟨fresh_mono _ _,trivial⟩ (allItems.cons qi0 (allItems.cons (qi1 fun X h=>RF2 (Row.below rx h)) (allItems.cons (qi1 fun X h=>RF2 (Row.below ry h)) (allItems.cons (qi2 fun X h=>MS X) (allItems.cons qi0 (allItems.cons (qi1 fun X h=>RF2 (Row.below rx h)) (allItems.cons (qi1 fun X h=>RF2 (Row.below ry h)) (allItems.cons (qi2 fun X h=>MA X) (allItems.cons qi0 (allItems.cons qia trivial)))))))))) ?_;rintro W h1;have stp:=St4 hB h1 rk rx ry ro;clear hB h1 rk sk rx sx ry sy ro so;obtain ⟨hB,rk,rx,ry,ro⟩:=stp;have sk:=RF1 rk;have sx:=RF2 rx;have sy:=RF2 ry
 have so:=RFz4 ro;simp only [setItems,List.setIfInBounds_toArray,List.set_cons_succ,List.set_cons_zero,List.take_succ_cons,List.take_zero,List.drop_succ_cons,List.drop_zero];rintro _ ⟨pu,rfl,hu,ru⟩;replace dk_u:=Nat.lt_of_lt_of_le dk_u hu;replace dx_u:=Nat.lt_of_lt_of_le dx_u hu;replace dy_u:=Nat.lt_of_lt_of_le dy_u hu;replace do_u:=Nat.lt_of_lt_of_le do_u hu;replace d0_u:=Nat.le_trans d0_u hu;have su:=RFz4 ru;go_wp2_with fail;have sB:=hB.size;refine post_cut (fun X=>Below w.heap.size w X∧Row X (w.heap.size+1+1) (oI x y)) ⟨BW,RW8⟩ ?_;clear rk sk rx sx ry sy ro so ru su hB sB;rintro V2 ⟨hB,ro⟩;have so:=RFz4 ro;refine bodyPost_ret (v := .tuple #[.agg #[.string (S x.num),.string (S (x.den:Int)),.string (S y.num),.string (S (y.den:Int))],.int .i64 0]) ?res rfl ⟨rfl,hB⟩
 case res=>simp [results,Tryz.results96, go_sem,so]
theorem r8find {l:List Trm} {k id:Nat} (hkl:k<l.length) (hk1:(trD l k).s=id) (hlo:∀ i,i<k→(trD l i).s≠id) (p:Option Addr) (n c:Nat) (hn:l.length=n) (hn1:n≤100000) (w:World) (hp:TAt 55 w p l):Calls Tryz.prog 92 #[.slice p n c,.int .i64 (id:Int)] w (IntIs (k:Int) w):=by
 have hB:Below w.heap.size w w:=Below.refl _ _;have HP:=Lib.hid hp;have hkn:k<n:=by omega
 have hnI:(n:Int)≤100000:=by omega
 unfold IntIs;clear hp;go_enter Tryz.func92, Tryz.ntmps92;go_wp2_with fail;go_loopw [5] (fun v5 wr=>∃ i:Nat,v5 = .int .i64 (i:Int)∧i≤k∧Below w.heap.size w wr) (fun v5 _=>(k - RowKit.intOf v5).toNat)
 case atStart=>exact ⟨0,rfl,Nat.zero_le _,hB⟩
 case round =>
  clear hB;obtain ⟨i,rfl,hik0,hB⟩:=hrel;have hlt:i<l.length:=by omega
  have hin2:(i:Int)<(n:Int):=by omega
  obtain ⟨x,hx⟩:∃ x,x=trD l i:=⟨_,rfl⟩
  have hno:=hlo i;rw [← hx] at hno;have hyes:i=k→x.s=id:=fun e=>by rw [hx,e];exact hk1
  obtain ⟨g,gcur,rfl,rg,g0,g1,g2⟩:=TAt.at (UAt.below HP.out hB) hlt;rw [← hx] at g0 g1 g2;clear hx;have Fg:∀ X,Row X g (.cells gcur 55)→(g<X.heap.size∧X.cell? ⟨g,i * 3,none⟩=some (.int .i64 (x.s:Int))∧X.cell? ⟨g,i * 3+1,none⟩=some (.string (S x.c.num))∧X.cell? ⟨g,i * 3+2,none⟩=some (.string (S (x.c.den:Int)))):=fun X h=>⟨h.1,Row.cell_at h _ g0,Row.cell_at h _ g1,Row.cell_at h _ g2⟩
  have sg:=Fg _ rg;rcases Nat.lt_or_ge i k with hik | hik
  ·have hne:((x.s:Int) == (id:Int))=false:=by have:=hno hik;simp;omega
   have hne2:¬ ((x.s:Int)=(id:Int)):=by have:=hno hik;omega
   clear hno hyes;go_wp2;go_roundw
   case rel=>exact ⟨i+1,by go_num,by omega,BW⟩
   case measure=>simp [RowKit.intOf];omega
  ·obtain rfl:i=k:=by omega
   have hid2:=hyes rfl;subst hid2;clear hno hyes;go_wp2;go_ret;exact ⟨rfl,hB⟩
theorem r8valid {f:Frm} (ho:f.Ok) (hd:FDig 200 f) (p:Option Addr) (c:Nat) (w:World) (hp:TAt 55 w p f.t):Calls Tryz.prog 89 #[FV f p c] w (BoolOk true w):=by
 have hB:Below w.heap.size w w:=Below.refl _ _;have HP:=Lib.hid hp;have VC:=fun W=>rqvalid f.c hd.c W
 have VR:=fun W=>rqvalid f.r hd.r W
 have MZ:=fun W=>r8whole (n:=0) (by decide) whole0 W
 have MC:=fun W=>rqcompare f.r 0 hd.r ((qd (by decide +kernel):QDig 9 _).mono (by decide)) W
 have hc:0≤cmpQ f.r 0:=cmpQ_ge.2 ho.rest;have MX:=fun i (hi:i<f.t.length)=>And.intro (fun W=>rqvalid (trD f.t i).c (hd.t _ (trD_mem hi)) W) (show ((S (trD f.t i).c.num).toList == (S (0:Rat).num).toList)=false from S_ne (fun e=>ho.nz _ (trD_mem hi) (Rat.num_eq_zero.1 e)))
 have hfew:=ho.few;have HS:=Lib.hid ho.src;unfold BoolOk at *;unfold CmpOk at MC;unfold QIs at MZ;unfold FV;unfold Q at *;obtain ⟨z,hz⟩:∃ z:Rat,z=0:=⟨_,rfl⟩
 rw [← hz] at MZ MC hc MX;clear hz ho hp hd;generalize cmpQ f.r z=cm at *;have hc0:¬ (cm<0):=by omega
 obtain ⟨n,hn⟩:=form_len f;rw [hn] at hfew;rw [hn];have HN:=Lib.hid hn;clear hn;have hfew2:(n:Int)≤64:=by omega
 have hfx:=And.intro hc (And.intro hc0 hfew2);generalize f.t=l at *;go_enter Tryz.func89, Tryz.ntmps89;go_wp2_with fail;have sB:=hB.size;refine world_cut (fun X=>Below w.heap.size w X∧Row X w.heap.size (oF f.c f.r p n c)) ⟨BW,RW8⟩ ?_;clear hB sB;rintro V1 ⟨hB,rf⟩;have sf:=RF5 rf;refine (VC _).mono ?_;rintro e W2 ⟨rfl,h1⟩;have stp:=St1 hB h1 rf;clear hB h1 rf sf;obtain ⟨hB,rf⟩:=stp;have sf:=RF5 rf;go_wp2_with fail;refine (VR _).mono ?_;rintro e W3 ⟨rfl,h1⟩;have stp:=St1 hB h1 rf;clear hB h1 rf sf;obtain ⟨hB,rf⟩:=stp;have sf:=RF5 rf;go_wp2_with fail;refine wp_region_vals [.bool true,.bool false,.bool false,.bool true,.bool false,.bool false,.bool false,.pointer (some ⟨w.heap.size,3,none⟩),.agg #[.string (S f.r.num),.string (S (f.r.den:Int))],.agg #[.string (S z.num),.string (S (z.den:Int))],.int .i64 cm,.bool false,.bool false,.bool false,.pointer (some ⟨w.heap.size,2,none⟩),.slice p n c,.int .i64 (n:Int),.bool false,.bool false] (by kernel_rfl) (by kernel_rfl) rfl (allVals.cons qv0 (allVals.cons (qvf hfx) (allVals.cons qv0 (allVals.cons qv0 (allVals.cons (qvf hfx) (allVals.cons (qvf hfx) (allVals.cons qv0 (allVals.cons qv0 (allVals.cons (qv1 fun X h=>RF5 (Row.below rf h)) (allVals.cons (qv2 fun X h=>MZ X) (allVals.cons (qv2 fun X h=>MC X) (allVals.cons (qvf hfx) (allVals.cons (qvf hfx) (allVals.cons qv0 (allVals.cons qv0 (allVals.cons (qv1 fun X h=>RF5 (Row.below rf h)) (allVals.cons (qvf hfx) (allVals.cons (qvf hfx) (allVals.cons (qvf hfx) trivial))))))))))))))))))) ?_
 rintro W h1;have stp:=St1 hB h1 rf;clear hB h1 rf sf;obtain ⟨hB,rf⟩:=stp;have sf:=RF5 rf;simp only [setVals,List.setIfInBounds_toArray,List.set_cons_succ,List.set_cons_zero];go_wp2_with fail;go_loopw [5] (fun v5 wr=>∃ i:Nat,v5 = .int .i64 (i:Int)∧i≤n∧Below w.heap.size w wr∧Row wr w.heap.size (oF f.c f.r p n c)) (fun v5 _=>(n - RowKit.intOf v5).toNat)
 case atStart=>exact ⟨0,rfl,Nat.zero_le _,hB,rf⟩
 case round =>
  clear sf hB rf;obtain ⟨i,rfl,hin,hB,rf⟩:=hrel;rcases Nat.lt_or_ge i n with hlt | hge
  ·have hil:i<l.length:=by rw [HN.out];exact hlt
   rcases Nat.eq_zero_or_pos i with hi0 | hi0
   ·obtain ⟨hs1,hs2⟩:=HS.out.src _ (trD_mem hil);have MX:=MX i hil;obtain ⟨x,hx⟩:∃ x,x=trD l i:=⟨_,rfl⟩
    rw [← hx] at MX hs1 hs2;obtain ⟨g,gcur,rfl,rg,hgc⟩:=UAt.open (UAt.below HP.out hB) (by rw [raws_length];omega);obtain ⟨g0,g1,g2⟩:=hgc i (by rw [raws_length];exact hil);rw [raws_at hil,← hx] at g0 g1 g2;unfold Trm.raw at g0 g1 g2;clear hx hgc hil;have Fg:∀ X,Row X g (.cells gcur 55)→(g<X.heap.size∧X.cell? ⟨g,i * 3,none⟩=some (.int .i64 (x.s:Int))∧X.cell? ⟨g,i * 3+1,none⟩=some (.string (S x.c.num))∧X.cell? ⟨g,i * 3+2,none⟩=some (.string (S (x.c.den:Int)))):=fun X h=>⟨h.1,Row.cell_at h _ g0,Row.cell_at h _ g1,Row.cell_at h _ g2⟩
    have sg:=Fg _ rg;have sf:=RF5 rf;have hq0:(1:Int)≤(x.s:Int):=by omega
    have hq1:(x.s:Int)≤1000000:=by omega
    have hiI:(i:Int)<(n:Int):=by omega
    have hn0:0<n:=by omega
    have HI0:=Lib.hid hi0;clear hi0;obtain ⟨MV,hq⟩:=MX;have hfy:=Lib.hid (And.intro hq0 (And.intro hq1 (And.intro hiI (And.intro hn0 (And.intro HI0.out hq)))));go_wp2_with fail;have sB:=hB.size;refine world_cut (fun X=>Below w.heap.size w X∧Row X w.heap.size (oF f.c f.r (some ⟨g,0,none⟩) n c)∧Row X g (.cells gcur 55)∧Row X wr.heap.size (oT (x.s:Int) x.c)) ⟨BW,RW8,RW8,RW8⟩ ?_;clear rf sf rg sg hB sB;rintro V4 ⟨hB,rf,rg,rt⟩;have sf:=RF5 rf;have sg:=Fg _ rg;have st:=RF3 rt;refine (MV _).mono ?_;rintro e W5 ⟨rfl,h1⟩;have stp:=St3 hB h1 rf rg rt;clear hB h1 rf sf rg sg rt st;obtain ⟨hB,rf,rg,rt⟩:=stp;have sf:=RF5 rf;have sg:=Fg _ rg;have st:=RF3 rt;go_wp2_with fail;refine wp_region_vals [.bool true,.bool false,.bool false,.pointer (some ⟨wr.heap.size,1,none⟩),.agg #[.string (S x.c.num),.string (S (x.c.den:Int))],.agg #[.string (S z.num),.string (S (z.den:Int))],.bool false,.bool false,.bool false,.pointer (some ⟨wr.heap.size,0,none⟩),.int .i64 (x.s:Int),.bool false,.bool false,.bool false,.pointer (some ⟨wr.heap.size,0,none⟩),.int .i64 (x.s:Int),.bool false,.bool false,.bool false,.int .i64 (i:Int),.bool false,.bool false,undef,undef,undef,undef,undef,undef,undef,undef,undef,undef,.bool false,.bool false] (by kernel_rfl) (by kernel_rfl) rfl (allVals.cons qv0 (allVals.cons (qvf hfy.out) (allVals.cons qv0 (allVals.cons qv0 (allVals.cons (qv1 fun X h=>RF3 (Row.below rt h)) (allVals.cons (qv2 fun X h=>MZ X) (allVals.cons (qvf hfy.out) (allVals.cons (qvf hfy.out) (allVals.cons qv0 (allVals.cons qv0 (allVals.cons (qv1 fun X h=>RF3 (Row.below rt h)) (allVals.cons (qvf hfy.out) (allVals.cons (qvf hfy.out) (allVals.cons qv0 (allVals.cons qv0 (allVals.cons (qv1 fun X h=>RF3 (Row.below rt h)) (allVals.cons (qvf hfy.out) (allVals.cons (qvf hfy.out) (allVals.cons qv0 (allVals.cons qv0 (allVals.cons (qvf hfy.out) (allVals.cons qv0 (allVals.cons qv0 (allVals.cons qv0 (allVals.cons qv0 (allVals.cons qv0 (allVals.cons qv0 (allVals.cons qv0 (allVals.cons qv0 (allVals.cons qv0 (allVals.cons qv0 (allVals.cons qv0 (allVals.cons (qvf hfy.out) (allVals.cons (qvf hfy.out) trivial)))))))))))))))))))))))))))))))))) ?_
    rintro W h1;have stp:=St3 hB h1 rf rg rt;clear hB h1 rf sf rg sg rt st;obtain ⟨hB,rf,rg,rt⟩:=stp;have sf:=RF5 rf;have sg:=Fg _ rg;have st:=RF3 rt;simp only [setVals,List.setIfInBounds_toArray,List.set_cons_succ,List.set_cons_zero];go_wp2;go_roundw
    case rel=>exact ⟨i+1,by go_num,by omega,BW,RW8⟩
    case measure=>simp [RowKit.intOf];try omega
   ·obtain ⟨j,hij⟩:∃ j,i=j+1:=⟨i - 1,by omega⟩
    have hjl:j<l.length:=by omega
    have HIJ:=Lib.hid hij;have hst:((trD l j).s:Int)<((trD l i).s:Int):=by have:=HS.out.lt (show j<i by omega) hil;omega
    obtain ⟨hs1,hs2⟩:=HS.out.src _ (trD_mem hil);have MX:=MX i hil;obtain ⟨x,hx⟩:∃ x,x=trD l i:=⟨_,rfl⟩
    obtain ⟨y,hy⟩:∃ y,y=trD l j:=⟨_,rfl⟩
    rw [← hx,← hy] at hst;have hstN:y.s<x.s:=by omega
    rw [← hx] at MX hs1 hs2;obtain ⟨g,gcur,rfl,rg,hgc⟩:=UAt.open (UAt.below HP.out hB) (by rw [raws_length];omega);obtain ⟨g0,g1,g2⟩:=hgc i (by rw [raws_length];exact hil);rw [raws_at hil,← hx] at g0 g1 g2;obtain ⟨g3,_,_⟩:=hgc j (by rw [raws_length];exact hjl);rw [raws_at hjl,← hy] at g3;clear hy hij hjl;unfold Trm.raw at g0 g1 g2 g3;clear hx hgc hil;have Fg:∀ X,Row X g (.cells gcur 55)→(g<X.heap.size∧X.cell? ⟨g,i * 3,none⟩=some (.int .i64 (x.s:Int))∧X.cell? ⟨g,i * 3+1,none⟩=some (.string (S x.c.num))∧X.cell? ⟨g,i * 3+2,none⟩=some (.string (S (x.c.den:Int)))∧X.cell? ⟨g,j * 3,none⟩=some (.int .i64 (y.s:Int))):=fun X h=>⟨h.1,Row.cell_at h _ g0,Row.cell_at h _ g1,Row.cell_at h _ g2,Row.cell_at h _ g3⟩
    have sg:=Fg _ rg;have sf:=RF5 rf;have hq0:(1:Int)≤(x.s:Int):=by omega
    have hq1:(x.s:Int)≤1000000:=by omega
    have hiI:(i:Int)<(n:Int):=by omega
    have hw1:IntKind.i64.wrap ((i:Int) - 1)=(j:Int):=by rw [IntKind.wrap_i64];have:=HIJ.out;omega
    have hjI:(j:Int)<(n:Int):=by have:=HIJ.out;omega
    have hi1:(0:Int)<(i:Int):=by omega
    obtain ⟨MV,hq⟩:=MX;have hfy:=Lib.hid (And.intro hq0 (And.intro hq1 (And.intro hiI (And.intro hw1 (And.intro hjI (And.intro hi0 (And.intro hi1 (And.intro hst (And.intro hstN hq)))))))));go_wp2_with fail;have sB:=hB.size;refine world_cut (fun X=>Below w.heap.size w X∧Row X w.heap.size (oF f.c f.r (some ⟨g,0,none⟩) n c)∧Row X g (.cells gcur 55)∧Row X wr.heap.size (oT (x.s:Int) x.c)) ⟨BW,RW8,RW8,RW8⟩ ?_;clear rf sf rg sg hB sB;rintro V4 ⟨hB,rf,rg,rt⟩;have sf:=RF5 rf;have sg:=Fg _ rg;have st:=RF3 rt;refine (MV _).mono ?_;rintro e W5 ⟨rfl,h1⟩;have stp:=St3 hB h1 rf rg rt;clear hB h1 rf sf rg sg rt st;obtain ⟨hB,rf,rg,rt⟩:=stp;have sf:=RF5 rf;have sg:=Fg _ rg;have st:=RF3 rt;go_wp2_with fail;refine wp_region_vals [.bool true,.bool false,.bool false,.pointer (some ⟨wr.heap.size,1,none⟩),.agg #[.string (S x.c.num),.string (S (x.c.den:Int))],.agg #[.string (S z.num),.string (S (z.den:Int))],.bool false,.bool false,.bool false,.pointer (some ⟨wr.heap.size,0,none⟩),.int .i64 (x.s:Int),.bool false,.bool false,.bool false,.pointer (some ⟨wr.heap.size,0,none⟩),.int .i64 (x.s:Int),.bool false,.bool false,.bool false,.int .i64 (i:Int),.bool true,.bool true,.pointer (some ⟨w.heap.size,2,none⟩),.slice (some ⟨g,0,none⟩) n c,.int .i64 (i:Int),.int .i64 (j:Int),.pointer (some ⟨g,j * 3,none⟩),.pointer (some ⟨g,j * 3,none⟩),.int .i64 (y.s:Int),.pointer (some ⟨wr.heap.size,0,none⟩),.int .i64 (x.s:Int),.bool false,.bool false,.bool false] (by kernel_rfl) (by kernel_rfl) rfl (allVals.cons qv0 (allVals.cons (qvf hfy.out) (allVals.cons qv0 (allVals.cons qv0 (allVals.cons (qv1 fun X h=>RF3 (Row.below rt h)) (allVals.cons (qv2 fun X h=>MZ X) (allVals.cons (qvf hfy.out) (allVals.cons (qvf hfy.out) (allVals.cons qv0 (allVals.cons qv0 (allVals.cons (qv1 fun X h=>RF3 (Row.below rt h)) (allVals.cons (qvf hfy.out) (allVals.cons (qvf hfy.out) (allVals.cons qv0 (allVals.cons qv0 (allVals.cons (qv1 fun X h=>RF3 (Row.below rt h)) (allVals.cons (qvf hfy.out) (allVals.cons (qvf hfy.out) (allVals.cons qv0 (allVals.cons qv0 (allVals.cons (qvf hfy.out) (allVals.cons qv0 (allVals.cons qv0 (allVals.cons (qv1 fun X h=>RF5 (Row.below rf h)) (allVals.cons qv0 (allVals.cons (qvf hfy.out) (allVals.cons (qvf hfy.out) (allVals.cons qv0 (allVals.cons (qv1 fun X h=>Fg X (Row.below rg h)) (allVals.cons qv0 (allVals.cons (qv1 fun X h=>RF3 (Row.below rt h)) (allVals.cons (qvf hfy.out) (allVals.cons (qvf hfy.out) (allVals.cons (qvf hfy.out) trivial)))))))))))))))))))))))))))))))))) ?_
    rintro W h1;have stp:=St3 hB h1 rf rg rt;clear hB h1 rf sf rg sg rt st;obtain ⟨hB,rf,rg,rt⟩:=stp;have sf:=RF5 rf;have sg:=Fg _ rg;have st:=RF3 rt;simp only [setVals,List.setIfInBounds_toArray,List.set_cons_succ,List.set_cons_zero];go_wp2;go_roundw
    case rel=>exact ⟨i+1,by go_num,by omega,BW,RW8⟩
    case measure=>simp [RowKit.intOf];try omega
  ·have hnl:¬ ((i:Int)<(n:Int)):=by omega
   have sf:=RF5 rf;go_wp2;go_ret;exact ⟨rfl,hB⟩
theorem r8vals {l:List Trm} (hv:ValsOk l) (p:Option Addr) (c:Nat) (w:World) (hp:TAt 55 w p l):Calls Tryz.prog 90 #[.slice p l.length c] w (BoolOk true w):=by
 have hB:Below w.heap.size w w:=Below.refl _ _;have HP:=Lib.hid hp;have MM:=fun W=>r8whole (n := -1) (by decide) wholeM W
 have M1:=fun W=>r8whole (n:=1) (by decide) whole1 W
 have MX:∀ i,i<l.length→(∀ W,Calls Tryz.prog 146 #[Q (trD l i).c] W (BoolOk true W))∧∃ c1 c2:Int,0≤c1∧c2≤0∧(∀ W,Calls Tryz.prog 147 #[Q (trD l i).c,Q (-1)] W (CmpOk c1 W))∧(∀ W,Calls Tryz.prog 147 #[Q (trD l i).c,Q 1] W (CmpOk c2 W)):=fun i hi=>⟨fun W=>rqvalid _ (hv.dig _ (trD_mem hi)) W,cmpQ (trD l i).c (-1),cmpQ (trD l i).c 1,cmpQ_ge.2 (hv.unit _ (trD_mem hi)).1,cmpQ_le.2 (hv.unit _ (trD_mem hi)).2,fun W=>rqcompare _ _ (hv.dig _ (trD_mem hi)) ((qd (by decide +kernel):QDig 9 _).mono (by decide)) W,fun W=>rqcompare _ _ (hv.dig _ (trD_mem hi)) ((qd (by decide +kernel):QDig 9 _).mono (by decide)) W⟩
 have hfew:=hv.few;have HS:=Lib.hid hv.src;unfold BoolOk CmpOk at *;unfold QIs at MM M1;unfold Q at *;generalize (-1:Rat)=om at *;generalize (1:Rat)=one at *;clear hv hp;obtain ⟨n,hn⟩:∃ n,l.length=n:=⟨_,rfl⟩
 rw [hn] at hfew;rw [hn];have HN:=Lib.hid hn;clear hn;have hfew2:(n:Int)≤64:=by omega
 have hfew3:¬ (64:Int)<(n:Int):=by omega
 go_enter Tryz.func90, Tryz.ntmps90;go_wp2_with fail;go_loopw [3] (fun v3 wr=>∃ i:Nat,v3 = .int .i64 (i:Int)∧i≤n∧Below w.heap.size w wr) (fun v3 _=>(n - RowKit.intOf v3).toNat)
 case atStart=>exact ⟨0,rfl,Nat.zero_le _,hB⟩
 case round =>
  clear hB;obtain ⟨i,rfl,hin,hB⟩:=hrel;rcases Nat.lt_or_ge i n with hlt | hge
  ·have hil:i<l.length:=by rw [HN.out];exact hlt
   rcases Nat.eq_zero_or_pos i with hi0 | hi0
   ·obtain ⟨hs1,hs2⟩:=HS.out.src _ (trD_mem hil);have MX:=MX i hil;obtain ⟨x,hx⟩:∃ x,x=trD l i:=⟨_,rfl⟩
    rw [← hx] at MX hs1 hs2;obtain ⟨g,gcur,rfl,rg,hgc⟩:=UAt.open (UAt.below HP.out hB) (by rw [raws_length];omega);obtain ⟨g0,g1,g2⟩:=hgc i (by rw [raws_length];exact hil);rw [raws_at hil,← hx] at g0 g1 g2;unfold Trm.raw at g0 g1 g2;clear hx hgc hil;have Fg:∀ X,Row X g (.cells gcur 55)→(g<X.heap.size∧X.cell? ⟨g,i * 3,none⟩=some (.int .i64 (x.s:Int))∧X.cell? ⟨g,i * 3+1,none⟩=some (.string (S x.c.num))∧X.cell? ⟨g,i * 3+2,none⟩=some (.string (S (x.c.den:Int)))):=fun X h=>⟨h.1,Row.cell_at h _ g0,Row.cell_at h _ g1,Row.cell_at h _ g2⟩
    have sg:=Fg _ rg;have hq0:(1:Int)≤(x.s:Int):=by omega
    have hq1:(x.s:Int)≤1000000:=by omega
    have hiI:(i:Int)<(n:Int):=by omega
    have hn0:0<n:=by omega
    have HI0:=Lib.hid hi0;clear hi0;obtain ⟨MV,c1,c2,h1,h2,K1,K2⟩:=MX;have hfy:=Lib.hid (And.intro hq0 (And.intro hq1 (And.intro hiI (And.intro hn0 (And.intro HI0.out (And.intro h1 h2))))));go_wp2_with fail;refine (MV _).mono ?_;rintro e W1 ⟨rfl,h1⟩;have stp:=St1 hB h1 rg;clear hB h1 rg sg;obtain ⟨hB,rg⟩:=stp;have sg:=Fg _ rg;go_wp2_with fail;refine wp_region_vals [.bool true,.bool false,.bool false,.slice (some ⟨g,0,none⟩) n c,.int .i64 (i:Int),.pointer (some ⟨g,i * 3,none⟩),.pointer (some ⟨g,i * 3+1,none⟩),.agg #[.string (S x.c.num),.string (S (x.c.den:Int))],.agg #[.string (S om.num),.string (S (om.den:Int))],.int .i64 c1,.bool false,.bool false,.bool false,.slice (some ⟨g,0,none⟩) n c,.int .i64 (i:Int),.pointer (some ⟨g,i * 3,none⟩),.pointer (some ⟨g,i * 3+1,none⟩),.agg #[.string (S x.c.num),.string (S (x.c.den:Int))],.agg #[.string (S one.num),.string (S (one.den:Int))],.int .i64 c2,.bool false,.bool false] (by kernel_rfl) (by kernel_rfl) rfl (allVals.cons qv0 (allVals.cons (qvf hfy.out) (allVals.cons qv0 (allVals.cons qv0 (allVals.cons qv0 (allVals.cons (qvf hfy.out) (allVals.cons qv0 (allVals.cons (qv1 fun X h=>Fg X (Row.below rg h)) (allVals.cons (qv2 fun X h=>MM X) (allVals.cons (qv2 fun X h=>K1 X) (allVals.cons (qvf hfy.out) (allVals.cons (qvf hfy.out) (allVals.cons qv0 (allVals.cons qv0 (allVals.cons qv0 (allVals.cons (qvf hfy.out) (allVals.cons qv0 (allVals.cons (qv1 fun X h=>Fg X (Row.below rg h)) (allVals.cons (qv2 fun X h=>M1 X) (allVals.cons (qv2 fun X h=>K2 X) (allVals.cons (qvf hfy.out) (allVals.cons (qvf hfy.out) trivial)))))))))))))))))))))) ?_
    rintro W h1;have stp:=St1 hB h1 rg;clear hB h1 rg sg;obtain ⟨hB,rg⟩:=stp;have sg:=Fg _ rg;simp only [setVals,List.setIfInBounds_toArray,List.set_cons_succ,List.set_cons_zero];go_wp2_with fail;refine wp_region_vals [.slice (some ⟨g,0,none⟩) n c,.int .i64 (i:Int),.pointer (some ⟨g,i * 3,none⟩),.pointer (some ⟨g,i * 3,none⟩),.int .i64 (x.s:Int),.bool false,.bool false,.slice (some ⟨g,0,none⟩) n c,.int .i64 (i:Int),.pointer (some ⟨g,i * 3,none⟩),.pointer (some ⟨g,i * 3,none⟩),.int .i64 (x.s:Int),.bool false,.bool false,.bool false,.int .i64 (i:Int),.bool false,.bool false,undef,undef,undef,undef,undef,undef,undef,undef,undef,undef,undef,undef,.bool false,.bool false] (by kernel_rfl) (by kernel_rfl) rfl (allVals.cons qv0 (allVals.cons qv0 (allVals.cons (qvf hfy.out) (allVals.cons qv0 (allVals.cons (qv1 fun X h=>Fg X (Row.below rg h)) (allVals.cons (qvf hfy.out) (allVals.cons qv0 (allVals.cons qv0 (allVals.cons qv0 (allVals.cons (qvf hfy.out) (allVals.cons qv0 (allVals.cons (qv1 fun X h=>Fg X (Row.below rg h)) (allVals.cons (qvf hfy.out) (allVals.cons (qvf hfy.out) (allVals.cons qv0 (allVals.cons qv0 (allVals.cons (qvf hfy.out) (allVals.cons qv0 (allVals.cons qv0 (allVals.cons qv0 (allVals.cons qv0 (allVals.cons qv0 (allVals.cons qv0 (allVals.cons qv0 (allVals.cons qv0 (allVals.cons qv0 (allVals.cons qv0 (allVals.cons qv0 (allVals.cons qv0 (allVals.cons qv0 (allVals.cons (qvf hfy.out) (allVals.cons (qvf hfy.out) trivial)))))))))))))))))))))))))))))))) ?_;rintro W h1;have stp:=St1 hB h1 rg;clear hB h1 rg sg
    obtain ⟨hB,rg⟩:=stp;have sg:=Fg _ rg;simp only [setVals,List.setIfInBounds_toArray,List.set_cons_succ,List.set_cons_zero];go_wp2;go_roundw
    case rel=>exact ⟨i+1,by go_num,by omega,BW⟩
    case measure=>simp [RowKit.intOf];try omega
   ·obtain ⟨j,hij⟩:∃ j,i=j+1:=⟨i - 1,by omega⟩
    have hjl:j<l.length:=by omega
    have HIJ:=Lib.hid hij;have hst:((trD l j).s:Int)<((trD l i).s:Int):=by have:=HS.out.lt (show j<i by omega) hil;omega
    obtain ⟨hs1,hs2⟩:=HS.out.src _ (trD_mem hil);have MX:=MX i hil;obtain ⟨x,hx⟩:∃ x,x=trD l i:=⟨_,rfl⟩
    obtain ⟨y,hy⟩:∃ y,y=trD l j:=⟨_,rfl⟩
    rw [← hx,← hy] at hst;have hstN:y.s<x.s:=by omega
    rw [← hx] at MX hs1 hs2;obtain ⟨g,gcur,rfl,rg,hgc⟩:=UAt.open (UAt.below HP.out hB) (by rw [raws_length];omega);obtain ⟨g0,g1,g2⟩:=hgc i (by rw [raws_length];exact hil);rw [raws_at hil,← hx] at g0 g1 g2;obtain ⟨g3,_,_⟩:=hgc j (by rw [raws_length];exact hjl);rw [raws_at hjl,← hy] at g3;clear hy hij hjl;unfold Trm.raw at g0 g1 g2 g3;clear hx hgc hil;have Fg:∀ X,Row X g (.cells gcur 55)→(g<X.heap.size∧X.cell? ⟨g,i * 3,none⟩=some (.int .i64 (x.s:Int))∧X.cell? ⟨g,i * 3+1,none⟩=some (.string (S x.c.num))∧X.cell? ⟨g,i * 3+2,none⟩=some (.string (S (x.c.den:Int)))∧X.cell? ⟨g,j * 3,none⟩=some (.int .i64 (y.s:Int))):=fun X h=>⟨h.1,Row.cell_at h _ g0,Row.cell_at h _ g1,Row.cell_at h _ g2,Row.cell_at h _ g3⟩
    have sg:=Fg _ rg;have hq0:(1:Int)≤(x.s:Int):=by omega
    have hq1:(x.s:Int)≤1000000:=by omega
    have hiI:(i:Int)<(n:Int):=by omega
    have hw1:IntKind.i64.wrap ((i:Int) - 1)=(j:Int):=by rw [IntKind.wrap_i64];have:=HIJ.out;omega
    have hjI:(j:Int)<(n:Int):=by have:=HIJ.out;omega
    have hi1:(0:Int)<(i:Int):=by omega
    obtain ⟨MV,c1,c2,h1,h2,K1,K2⟩:=MX;have hfy:=Lib.hid (And.intro hq0 (And.intro hq1 (And.intro hiI (And.intro hw1 (And.intro hjI (And.intro hi0 (And.intro hi1 (And.intro hst (And.intro hstN (And.intro h1 h2))))))))));go_wp2_with fail;refine (MV _).mono ?_;rintro e W1 ⟨rfl,h1⟩;have stp:=St1 hB h1 rg;clear hB h1 rg sg;obtain ⟨hB,rg⟩:=stp;have sg:=Fg _ rg;go_wp2_with fail;refine wp_region_vals [.bool true,.bool false,.bool false,.slice (some ⟨g,0,none⟩) n c,.int .i64 (i:Int),.pointer (some ⟨g,i * 3,none⟩),.pointer (some ⟨g,i * 3+1,none⟩),.agg #[.string (S x.c.num),.string (S (x.c.den:Int))],.agg #[.string (S om.num),.string (S (om.den:Int))],.int .i64 c1,.bool false,.bool false,.bool false,.slice (some ⟨g,0,none⟩) n c,.int .i64 (i:Int),.pointer (some ⟨g,i * 3,none⟩),.pointer (some ⟨g,i * 3+1,none⟩),.agg #[.string (S x.c.num),.string (S (x.c.den:Int))],.agg #[.string (S one.num),.string (S (one.den:Int))],.int .i64 c2,.bool false,.bool false] (by kernel_rfl) (by kernel_rfl) rfl (allVals.cons qv0 (allVals.cons (qvf hfy.out) (allVals.cons qv0 (allVals.cons qv0 (allVals.cons qv0 (allVals.cons (qvf hfy.out) (allVals.cons qv0 (allVals.cons (qv1 fun X h=>Fg X (Row.below rg h)) (allVals.cons (qv2 fun X h=>MM X) (allVals.cons (qv2 fun X h=>K1 X) (allVals.cons (qvf hfy.out) (allVals.cons (qvf hfy.out) (allVals.cons qv0 (allVals.cons qv0 (allVals.cons qv0 (allVals.cons (qvf hfy.out) (allVals.cons qv0 (allVals.cons (qv1 fun X h=>Fg X (Row.below rg h)) (allVals.cons (qv2 fun X h=>M1 X) (allVals.cons (qv2 fun X h=>K2 X) (allVals.cons (qvf hfy.out) (allVals.cons (qvf hfy.out) trivial)))))))))))))))))))))) ?_
    rintro W h1;have stp:=St1 hB h1 rg;clear hB h1 rg sg;obtain ⟨hB,rg⟩:=stp;have sg:=Fg _ rg;simp only [setVals,List.setIfInBounds_toArray,List.set_cons_succ,List.set_cons_zero];go_wp2_with fail;refine wp_region_vals [.slice (some ⟨g,0,none⟩) n c,.int .i64 (i:Int),.pointer (some ⟨g,i * 3,none⟩),.pointer (some ⟨g,i * 3,none⟩),.int .i64 (x.s:Int),.bool false,.bool false,.slice (some ⟨g,0,none⟩) n c,.int .i64 (i:Int),.pointer (some ⟨g,i * 3,none⟩),.pointer (some ⟨g,i * 3,none⟩),.int .i64 (x.s:Int),.bool false,.bool false,.bool false,.int .i64 (i:Int),.bool true,.bool true,.slice (some ⟨g,0,none⟩) n c,.int .i64 (i:Int),.int .i64 (j:Int),.pointer (some ⟨g,j * 3,none⟩),.pointer (some ⟨g,j * 3,none⟩),.int .i64 (y.s:Int),.slice (some ⟨g,0,none⟩) n c,.int .i64 (i:Int),.pointer (some ⟨g,i * 3,none⟩),.pointer (some ⟨g,i * 3,none⟩),.int .i64 (x.s:Int),.bool false,.bool false,.bool false] (by kernel_rfl) (by kernel_rfl) rfl (allVals.cons qv0 (allVals.cons qv0 (allVals.cons (qvf hfy.out) (allVals.cons qv0 (allVals.cons (qv1 fun X h=>Fg X (Row.below rg h)) (allVals.cons (qvf hfy.out) (allVals.cons qv0 (allVals.cons qv0 (allVals.cons qv0 (allVals.cons (qvf hfy.out) (allVals.cons qv0 (allVals.cons (qv1 fun X h=>Fg X (Row.below rg h)) (allVals.cons (qvf hfy.out) (allVals.cons (qvf hfy.out) (allVals.cons qv0 (allVals.cons qv0 (allVals.cons (qvf hfy.out) (allVals.cons qv0 (allVals.cons qv0 (allVals.cons qv0 (allVals.cons (qvf hfy.out) (allVals.cons (qvf hfy.out) (allVals.cons qv0 (allVals.cons (qv1 fun X h=>Fg X (Row.below rg h)) (allVals.cons qv0 (allVals.cons qv0 (allVals.cons (qvf hfy.out) (allVals.cons qv0 (allVals.cons (qv1 fun X h=>Fg X (Row.below rg h)) (allVals.cons (qvf hfy.out) (allVals.cons (qvf hfy.out) (allVals.cons (qvf hfy.out) trivial)))))))))))))))))))))))))))))))) ?_
    rintro W h1;have stp:=St1 hB h1 rg;clear hB h1 rg sg;obtain ⟨hB,rg⟩:=stp;have sg:=Fg _ rg;simp only [setVals,List.setIfInBounds_toArray,List.set_cons_succ,List.set_cons_zero];go_wp2;go_roundw
    case rel=>exact ⟨i+1,by go_num,by omega,BW⟩
    case measure=>simp [RowKit.intOf];try omega
  ·have hnl:¬ ((i:Int)<(n:Int)):=by omega
   go_wp2;go_ret;exact ⟨rfl,hB⟩
end Go.Proofs.YtdikaoahgleffaaGreatDoor
