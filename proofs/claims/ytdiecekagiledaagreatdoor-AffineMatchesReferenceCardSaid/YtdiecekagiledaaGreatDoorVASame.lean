/- Package affine: Sqrt, where the root is not 0 and nothing is too large. -/
import Derived.Test.YtdiecekagiledaaGreatDoorVAInverse
import Derived.Test.YtdiecekagiledaaGreatDoorVESqrt
set_option linter.unusedSimpArgs false
set_option linter.unusedVariables false
set_option maxRecDepth 100000
set_option maxHeartbeats 16000000
namespace Go.Proofs.YtdiecekagiledaaGreatDoor
open Go Go.RowKit Go.Lib Go.Shelf Go.Proofs.Tryz
attribute [local go_sem] yg
theorem SqrtI.unique{a s t:Iv}{T:Int}(hT:0<T)(h:SqrtI a T s)(k:SqrtI a T t):s=t:=by
 have e1:s.lo=t.lo:=Rat.le_antisymm (h.1.mono hT k.1 CI) (k.1.mono hT h.1 CI);have e2:s.hi=t.hi:=Rat.le_antisymm (h.2.mono hT k.2 CI) (k.2.mono hT h.2 CI)
 cases s;cases t;simp only at e1 e2;rw[e1,e2]
theorem zci{j:Nat}{a s:Iv}{p:Nat}(hs:SqrtI a (TT p) s)(da:IDig j a)(hj:0<j)(oa:a.Ok)(hp:p<=30)(hjp:j+p+p+1<=200)(h0:0<=a.lo)(w:World)(he:Env w) :
  Calls prog 83 #[I a,.int .i64 (p:Int)] w (zcL s w):=(yc4 da hj oa hp hjp h0 w he).mono fun e w' ⟨s',h1,h2,h3⟩=>by
 obtain rfl:=hs.unique (qae p) h1;exact⟨h2,h3⟩
def qbJ(s:Iv)(a:Frm):Frm:=zax (1/(s.lo+s.hi)) (s.lo*s.hi/(s.lo+s.hi)) ((s.lo+s.hi)/4) a
structure SqrtF(j p:Nat)(s:Iv)(a:Frm):Prop where
 r:RangeF a
 j0:0<j
 jp:j+p+p+1<=200
 p30:p<=30
 da:IDig j (yh a)
 ok:(yh a).Ok
 pos:0<=(yh a).lo
 root:SqrtI (yh a) (TT p) s
 nz:s.hi≠0
 ds:QDig 200 s.hi
 sm:AF s.lo s.hi
 d1:DF 1 (s.lo+s.hi)
 m:MF s.lo s.hi
 d2:DF (s.lo*s.hi) (s.lo+s.hi)
 d3:DF (s.lo+s.hi) 4
 ln:LineF (1/(s.lo+s.hi)) (s.lo*s.hi/(s.lo+s.hi)) ((s.lo+s.hi)/4) a
theorem kcN{j p:Nat}{s:Iv}{a:Frm}(h:SqrtF j p s a)(oa:a.Ok)(pa:En)(ca:Nat)(ba bn:Nat)(w:World)(ra:Row w ba (oF a.c a.r pa a.t.length ca))(rn:Row w bn (.cells #[.int .i64 (p:Int)] 3))(hpa:TAt 34 w pa a.t)(he:Env w):Calls prog 82 #[.pointer (some ⟨ba,0,none⟩),.pointer (some ⟨bn,0,none⟩)] w (vb9 (fun g=>qbJ s a=g) w):=by
 have hB:=Ab w;have HPa:=hid hpa;have FN:=ja5;have MR:=fun W (h1:TAt 34 W pa a.t) (H:Env W)=>ybO oa h.r (Bb oa.few dd) pa ca W h1 H
 have MI:=fun W=>jbO (yh a) W
 have MI2:=fun W=>jbO s W
 have MQ:=fun W (H:Env W)=>zci h.root h.da h.j0 h.ok h.p30 h.jp h.pos W H
 have MH:=fun W (H:Env W)=>zaG h.ds W H
 have gh:¬ zE s.hi 0=0:=fun e=>h.nz (jbe.1 e)
 have W1:=fun W (H:Env W)=>qA (n:=1) dd kaf W H
 have W4_:=fun W (H:Env W)=>qA (n:=4) dd vcv W H
 have K1:=fun W (H:Env W)=>vbu h.sm W H
 have K2:=fun W (H:Env W)=>vcm h.d1 W H
 have K3:=fun W (H:Env W)=>zbF h.m W H
 have K4:=fun W (H:Env W)=>vcm h.d2 W H
 have K5:=fun W (H:Env W)=>vcm h.d3 W H
 have KL:=fun W (h1:TAt 34 W pa a.t) (H:Env W)=>FIs.say (ycM h.ln oa h.r.rad.dig pa ca W h1 H)
 unfold qbJ vb9;unfold zcL at MR MQ;unfold jca at MI MI2;unfold jB at MH;unfold FV I at *;unfold QIs at W1 W4_ K1 K2 K3 K4 K5;generalize zE s.hi 0=gg at *;have gbe:(gg==0)=false:=beq_eq_false_iff_ne.2 gh;generalize (yh a).lo=il at *;generalize (yh a).hi=ih at *;generalize s.lo=pl at *;generalize s.hi=ph at *;generalize zax (1/(pl+ph)) (pl*ph/(pl+ph)) ((pl+ph)/4) a=G at *;generalize 1/(pl+ph)=r1 at *;generalize pl*ph/(pl+ph)=r2 at *;generalize (pl+ph)/4=r4 at *;generalize pl*ph=pm at *;generalize pl+ph=psm at *;unfold Q at *;generalize (4:Rat)=four at *;generalize (1:Rat)=one at *;clear hpa h oa;have sa:=RF5 ra;have sn:=RF1 rn;go_enter func82,ntmps82;go_wp2_with fail;have da_o:ba<w.heap.size:=oo
 have dn_o:bn<w.heap.size:=oo
 have d0_o:w.heap.size<=w.heap.size:=by have:=hB.size;omega
 have sB:=hB.size;refine zi (kp2 hB ra rn fun X=>Row X w.heap.size oF0) ⟨BW,RW8,RW8,RW8⟩ ?_;unfold kp2;clear ra sa rn sn hB sB;rintro V1⟨hB,ra,rn,ro⟩;have sa:=RF5 ra;have sn:=RF1 rn;have so:=kd ro;have da_r:=ra.1;have dn_r:=rn.1;have do_r:=ro.1;have d0_r:=hB.size;refine qe 11 [.val (.agg #[.string (S a.c.num),.string (S (a.c.den:Int)),.slice pa a.t.length ca,.string (S a.r.num),.string (S (a.r.den:Int))]),.val (.tuple #[.agg #[.string (S il.num),.string (S (il.den:Int)),.string (S ih.num),.string (S (ih.den:Int))],.int .i64 0]),.val (.agg #[.string (S il.num),.string (S (il.den:Int)),.string (S ih.num),.string (S (ih.den:Int))]),.val (.int .i64 0),.val (.agg #[.string (S il.num),.string (S (il.den:Int)),.string (S ih.num),.string (S (ih.den:Int))]),.val (.int .i64 (p:Int)),.val (.tuple #[.agg #[.string (S pl.num),.string (S (pl.den:Int)),.string (S ph.num),.string (S (ph.den:Int))],.int .i64 0]),.val (.agg #[.string (S pl.num),.string (S (pl.den:Int)),.string (S ph.num),.string (S (ph.den:Int))]),.val (.int .i64 0),.val (.agg #[.string (S pl.num),.string (S (pl.den:Int)),.string (S ph.num),.string (S (ph.den:Int))]),.say (kbC _ oI0)] kr9 kr9 ⟨kac _ _,trivial⟩ (iC (qi1 fun X h=>RF5 (Ae ra h)) (iC (qi2 fun X h=>MR X (Ai HPa.out (Em hB h)) (he.below (Em hB h))) (iC qi0 (iC qi0 (iC (qi2 fun X h=>MI X) (iC (qi1 fun X h=>RF1 (Ae rn h)) (iC (qi2 fun X h=>MQ X (he.below (Em hB h))) (iC qi0 (iC qi0 (iC (qi2 fun X h=>MI2 X) (iC qia trivial))))))))))) ?_
 rintro W h1;have stp:=St3 hB h1 ra rn ro;clear hB h1 ra sa rn sn ro so;obtain⟨hB,ra,rn,ro⟩:=stp;have sa:=RF5 ra;have sn:=RF1 rn;have so:=kd ro;simp only[je,Ah,Ak,Al,AB,AI,AC,AH];rintro _⟨pr,rfl,hr,rr⟩;replace da_r:=AG da_r hr;replace dn_r:=AG dn_r hr;replace do_r:=AG do_r hr;replace d0_r:=Bb d0_r hr;have sr:=kn rr;go_upto_region 2 with fail;have sB:=hB.size;refine zi (kp2 hB ra ro fun X=>Row X pr (oI pl ph)) ⟨BW,RW8,RW8,RW8⟩ ?_;unfold kp2;clear ra sa rn sn ro so rr sr hB sB;rintro V2⟨hB,ra,ro,rr⟩;have sa:=RF5 ra;have so:=kd ro;have sr:=kn rr;have l_a:=ra.1;have l_o:=ro.1;have l_r:=rr.1;have l_W:=hB.size;refine Code.wp_mono (Q:=fun ex ac wx=>ex=.normal/\∃(vx vy:Nat) (u7 u8 u9 u10 u11 u12 u13 u14 u15 u16 u17 u18 u19 u20 u21 u22:Value),ac={ tmps:=#[.pointer (some ⟨ba,0,none⟩),.pointer (some ⟨bn,0,none⟩),.pointer (some ⟨w.heap.size,0,none⟩),.pointer (some ⟨pr,0,none⟩),.pointer (some ⟨vx,0,none⟩),.pointer (some ⟨vy,0,none⟩),undef,u7,u8,u9,u10,u11,u12,u13,u14,u15,u16,u17,u18,u19,u20,u21,u22,undef,undef,undef,undef,undef,undef,undef,undef,undef,undef,undef,undef,undef,undef,undef,undef,undef,undef,undef,undef,undef,undef,undef],defers:=[] }/\Aa w wx/\Row wx ba (oF a.c a.r pa a.t.length ca)/\Row wx w.heap.size oF0/\Row wx pr (oI pl ph)/\Row wx vx (oN pl)/\V2.heap.size<=vx/\Row wx vy (oN ph)/\V2.heap.size<=vy/\vx≠vy) ?rest ?first
 case first =>
  have sB:=hB.size;have KK:∀ X,Row X pr (oI pl ph)->(X.cell? ⟨pr,0,none⟩=some (.string (S pl.num))/\X.cell? ⟨pr,1,none⟩=some (.string (S (pl.den:Int)))/\X.cell? ⟨pr,2,none⟩=some (.string (S ph.num))/\X.cell? ⟨pr,3,none⟩=some (.string (S (ph.den:Int)))):=fun X hr=>⟨Af hr 0 rfl,Af hr 1 rfl,Af hr 2 rfl,Af hr 3 rfl⟩
  clear sa so sr;go_region_held3 (fun X=>X.cell? ⟨pr,0,none⟩=some (.string (S pl.num))/\X.cell? ⟨pr,1,none⟩=some (.string (S (pl.den:Int)))/\X.cell? ⟨pr,2,none⟩=some (.string (S ph.num))/\X.cell? ⟨pr,3,none⟩=some (.string (S (ph.den:Int)))) (first|exact KK _ RW8) (first
      | fail)
  all_goals (refine⟨rfl,_,_,_,_,_,_,_,_,_,_,_,_,_,_,_,_,_,_,rfl,?_,?_,?_,?_,?_,?_,?_,?_,?_⟩)
  all_goals first|omega|((repeat(first|(with_reducible assumption)|(with_reducible exact Au _ _)|(with_reducible refine Below.drew ?_)|(with_reducible refine ze ?_ _)|(with_reducible refine Below.alloc ?_ Ek _)|(with_reducible refine Below.setCell ?_ Ek _)));done)|((repeat(first|(with_reducible assumption)|(with_reducible exact jg Ek)|(with_reducible refine AX ?_)|(with_reducible refine Ck ?_ _)|(with_reducible refine AN ?_ _)|(with_reducible apply Cv)|(with_reducible apply Bz)|(with_reducible refine Ba ?_ _ Ek)));done)|(simp;done)|(simp;omega)
 case rest =>
  clear hB ra ro rr sa so sr;rintro ex ac wx⟨rfl,vx,vy,u7,u8,u9,u10,u11,u12,u13,u14,u15,u16,u17,u18,u19,u20,u21,u22,rfl,hB,ra,ro,rr,rx,hvx,ry,hvy,nx_y⟩;have da_x:ba<vx:=oo
  have da_y:ba<vy:=oo
  have do_x:w.heap.size<vx:=oo
  have do_y:w.heap.size<vy:=oo
  have dr_x:pr<vx:=oo
  have dr_y:pr<vy:=oo
  have d0_x:w.heap.size<=vx:=oo
  have d0_y:w.heap.size<=vy:=oo
  have sa:=RF5 ra;have so:=kd ro;have sr:=kn rr;have sx:=RF2 rx;have sy:=RF2 ry;go_wp2_with fail;clear rr sr;refine(MH _ (he.below hB)).mono ?_;rintro e W4⟨rfl,h1⟩;have stp:=St4 hB h1 ra ro rx ry;clear hB h1 ra sa ro so rx sx ry sy;obtain⟨hB,ra,ro,rx,ry⟩:=stp;have sa:=RF5 ra;have so:=kd ro;have sx:=RF2 rx;have sy:=RF2 ry;go_wp2_with fail;refine(K1 _ (he.below hB)).mono ?_;rintro e W5⟨rfl,h1⟩;have stp:=St4 hB h1 ra ro rx ry;clear hB h1 ra sa ro so rx sx ry sy;obtain⟨hB,ra,ro,rx,ry⟩:=stp;have sa:=RF5 ra;have so:=kd ro;have sx:=RF2 rx;have sy:=RF2 ry;go_wp2_with fail;have da_k:ba<W5.heap.size:=oo
  have do_k:w.heap.size<W5.heap.size:=oo
  have dx_k:vx<W5.heap.size:=oo
  have dy_k:vy<W5.heap.size:=oo
  have d0_k:w.heap.size<=W5.heap.size:=by have:=hB.size;omega
  have sB:=hB.size;refine zi (kp2 hB ra ro fun X=>Row X vx (oN pl)/\Row X vy (oN ph)/\Row X W5.heap.size (oN psm)) ⟨BW,RW8,RW8,RW8,RW8,RW8⟩ ?_;unfold kp2;clear ra sa ro so rx sx ry sy hB sB;rintro V6⟨hB,ra,ro,rx,ry,rk⟩;have sa:=RF5 ra;have so:=kd ro;have sx:=RF2 rx;have sy:=RF2 ry;have sk:=vd rk;refine qe 14 [.val (Ac one),.val (Ac psm),.val (Ac r1),.val (Ac pl),.val (Ac ph),.val (Ac pm),.val (Ac psm),.val (Ac r2),.val (Ac psm),.val (Ac four),.val (Ac r4),.val (.agg #[.string (S r1.num),.string (S (r1.den:Int)),.string (S r2.num),.string (S (r2.den:Int)),.string (S r4.num),.string (S (r4.den:Int))]),.val (.agg #[.string (S a.c.num),.string (S (a.c.den:Int)),.slice pa a.t.length ca,.string (S a.r.num),.string (S (a.r.den:Int))]),.say (SayF G)] kr9 kr9 ⟨SayF.mono _,trivial⟩ (iC (qi2 fun X h=>W1 X (he.below (Em hB h))) (iC (qi1 fun X h=>vd (Ae rk h)) (iC (qi2 fun X h=>K2 X (he.below (Em hB h))) (iC (qi1 fun X h=>RF2 (Ae rx h)) (iC (qi1 fun X h=>RF2 (Ae ry h)) (iC (qi2 fun X h=>K3 X (he.below (Em hB h))) (iC (qi1 fun X h=>vd (Ae rk h)) (iC (qi2 fun X h=>K4 X (he.below (Em hB h))) (iC (qi1 fun X h=>vd (Ae rk h)) (iC (qi2 fun X h=>W4_ X (he.below (Em hB h))) (iC (qi2 fun X h=>K5 X (he.below (Em hB h))) (iC qi0 (iC (qi1 fun X h=>RF5 (Ae ra h)) (iC (qi3 fun X h=>KL X (Ai HPa.out (Em hB h)) (he.below (Em hB h))) trivial)))))))))))))) ?_
  rintro W h1;have stp:=St5 hB h1 ra ro rx ry rk;clear hB h1 ra sa ro so rx sx ry sy rk sk;obtain⟨hB,ra,ro,rx,ry,rk⟩:=stp;have sa:=RF5 ra;have so:=kd ro;have sx:=RF2 rx;have sy:=RF2 ry;have sk:=vd rk;simp only[je,Ah,Ak,Al,AB,AI,AC,AH];rintro _⟨pg,cg,rfl,hT⟩;go_wp2_with fail;have sB:=hB.size;refine vc (fun X=>Aa w X/\Row X w.heap.size (oF G.c G.r pg G.t.length cg)/\TAt 34 X pg G.t) ⟨BW,RW8,TW⟩ ?_;clear ra sa ro so rx sx ry sy rk sk hB sB hT;rintro V7⟨hB,ro,hT⟩;have so:=kd ro;refine bodyPost_ret (v:=.agg #[.string (S G.c.num),.string (S (G.c.den:Int)),.slice pg G.t.length cg,.string (S G.r.num),.string (S (G.r.den:Int))]) ?res rfl ⟨G,pg,cg,rfl,hT,rfl,hB⟩
  case res=>simp[results,results82,go_sem,so]
theorem qc3{j p:Nat}{s:Iv}{a:Frm}(h:SqrtF j p s a)(oa:a.Ok)(pa:En)(ca:Nat)(w:World)(hpa:TAt 34 w pa a.t)(he:Env w):Calls prog 30 #[FV a pa ca,.int .i64 (p:Int)] w (FRes (qbJ s a) w):=by
 have hB:=Ab w;have HPa:=hid hpa;have da:=h.r.rad.dig;have CF:=fun s W (r:Row W s (oF a.c a.r pa a.t.length ca)) (h1:TAt 34 W pa a.t) (H:Env W)=>yR 117 (enters_of func117 kr9 rfl) s a pa ca W r (fun X hX=>qbz oa da pa ca X (Ai h1 hX) (H.below hX))
 have CR:=fun ba bn W (ra:Row W ba (oF a.c a.r pa a.t.length ca)) (rn:Row W bn (.cells #[.int .i64 (p:Int)] 3)) (h1:TAt 34 W pa a.t) (H:Env W)=>kcN h oa pa ca ba bn W ra rn h1 H
 generalize qbJ s a=G at *;unfold FRes;unfold FV;clear hpa h oa da;go_enter func30,ntmps30;go_wp2_with fail;have d0_o:w.heap.size<=w.heap.size+1+1:=by have:=hB.size;omega
 have sB:=hB.size;refine za (fun X=>Aa w X/\Row X w.heap.size (oF a.c a.r pa a.t.length ca)/\Row X (w.heap.size+1) (.cells #[.int .i64 (p:Int)] 3)/\Row X (w.heap.size+1+1) oF0/\Row X (w.heap.size+1+1+1) (oF a.c a.r pa a.t.length ca)) ⟨BW,RW8,RW8,RW8,RW8⟩ ?_;clear hB sB;rintro V1⟨hB,ra,rn,ro,rb3⟩;have sa:=RF5 ra;have sn:=RF1 rn;have so:=kd ro;have sb3:=RF5 rb3;refine(qO 82 _ _ _ (fun g=>G=g) _ (enters_of func82 kr9 rfl) (fun X h=>CF _ _ (Ae rb3 h) (Ai HPa.out (Em hB h)) (he.below (Em hB h))) (fun X h=>CR _ _ _ (Ae ra h) (Ae rn h) (Ai HPa.out (Em hB h)) (he.below (Em hB h)))).mono ?_;rintro e W2⟨_,pg,cg,rfl,hT,rfl,h1⟩;have stp:=St4 hB h1 ra rn ro rb3;clear hB h1 ra sa rn sn ro so rb3 sb3;obtain⟨hB,ra,rn,ro,rb3⟩:=stp;have sa:=RF5 ra;have sn:=RF1 rn;have so:=kd ro;have sb3:=RF5 rb3;unfold FV;go_wp2_with fail;have sB:=hB.size;refine vc (fun X=>Aa w X/\Row X (w.heap.size+1+1) (oF G.c G.r pg G.t.length cg)/\TAt 34 X pg G.t) ⟨BW,RW8,TW⟩ ?_;clear ra sa rn sn ro so rb3 sb3 hB sB hT;rintro V3⟨hB,ro,hT⟩;have so:=kd ro;refine bodyPost_ret (v:=.tuple #[.agg #[.string (S G.c.num),.string (S (G.c.den:Int)),.slice pg G.t.length cg,.string (S G.r.num),.string (S (G.r.den:Int))],.int .i64 0]) ?res rfl ⟨pg,cg,hT,rfl,hB⟩
 case res=>simp[results,results30,go_sem,so]
end Go.Proofs.YtdiecekagiledaaGreatDoor
namespace Go.Proofs.YtdiecekagiledaaGreatDoor
open Go Go.Lib
theorem qd{q:Rat}(h:q.num.natAbs<10^9/\((q.den:Int)).natAbs<10^9):QDig 9 q:=h
def eA:Frm:=⟨10,[⟨1,1⟩,⟨2,1/2⟩],0⟩
def eB:Frm:=⟨4,[⟨1,2⟩],0⟩
def eV:List Trm:=[⟨1,1⟩]
def eS:List Trm:=[⟨1,1/3⟩,⟨2,1/3⟩]
theorem zcQ:SrcOk eA.t:=⟨fun p hp=>by simp only[eA,Bd,Bf,or_false]at hp;rcases hp with rfl|rfl<;>decide,by unfold eA;simp⟩
theorem jcQ:SrcOk eB.t:=⟨fun p hp=>by simp only[eB,Bd,Bf,or_false]at hp;subst hp;decide,by unfold eB;simp⟩
theorem kaq:eA.Ok:=⟨by decide,zcQ,fun p hp=>by simp only[eA,Bd,Bf,or_false]at hp;rcases hp with rfl|rfl<;>decide +kernel,by decide +kernel⟩
theorem vbf:eB.Ok:=⟨by decide,jcQ,fun p hp=>by simp only[eB,Bd,Bf,or_false]at hp;subst hp;decide +kernel,by decide +kernel⟩
theorem eA_dig:FDig 9 eA:=⟨qd (by decide +kernel),fun p hp=>by simp only[eA,Bd,Bf,or_false]at hp;rcases hp with rfl|rfl<;>exact qd (by decide +kernel),qd (by decide +kernel)⟩
theorem eB_dig:FDig 9 eB:=⟨qd (by decide +kernel),fun p hp=>by simp only[eB,Bd,Bf,or_false]at hp;subst hp;exact qd (by decide +kernel),qd (by decide +kernel)⟩
theorem jbs(q:Rat)(h:QDig 9 q):FDig 9 (ki q):=⟨h,by simp[ki],by show QDig 9 0;exact qd (by decide +kernel)⟩
theorem r0(l:List Trm):yo l 0=0:=rfl
theorem r1(l:List Trm):yo l 1=0+vj (trD l 0).c:=rfl
theorem r2(l:List Trm):yo l 2=0+vj (trD l 0).c+vj (trD l 1).c:=rfl
theorem zbs:rad eA=3/2:=by decide +kernel
theorem qbs:rad eB=2:=by decide +kernel
theorem jbT:RadF eA:=⟨eA_dig.mono dd,fun k hk=>by
 rcases(show k=0\/k=1 by have:k<2:=hk;omega)with rfl|rfl
 ·exact Ct (j:=9) (k:=9) (qd (by decide +kernel)) (qd (by decide +kernel)) dd
 ·exact Ct (j:=9) (k:=9) (qd (by decide +kernel)) (qd (by decide +kernel)) dd,Ct (j:=9) (k:=9) (qd (by decide +kernel)) (qd (by decide +kernel)) dd⟩
theorem ybT:RadF eB:=⟨eB_dig.mono dd,fun k hk=>by
 obtain rfl:k=0:=by have:k<1:=hk;omega
 exact Ct (j:=9) (k:=9) (qd (by decide +kernel)) (qd (by decide +kernel)) dd,Ct (j:=9) (k:=9) (qd (by decide +kernel)) (qd (by decide +kernel)) dd⟩
theorem kbT:RangeF eA:=⟨jbT,SF.of (j:=9) (k:=9) (qd (by decide +kernel)) (qd (by decide +kernel)) dd,Ct (j:=9) (k:=9) (qd (by decide +kernel)) (qd (by decide +kernel)) dd⟩
theorem vbT:RangeF eB:=⟨ybT,SF.of (j:=9) (k:=9) (qd (by decide +kernel)) (qd (by decide +kernel)) dd,Ct (j:=9) (k:=9) (qd (by decide +kernel)) (qd (by decide +kernel)) dd⟩
theorem zch:yh eA=⟨17/2,23/2⟩:=by unfold yh;rw[zbs];congr 1<;>decide +kernel
theorem qB:yh eB=⟨2,6⟩:=by unfold yh;rw[qbs];congr 1<;>decide +kernel
theorem kc4:ValsOk eV:=⟨by decide,⟨fun p hp=>by simp only[eV,Bd,Bf,or_false]at hp;subst hp;decide,by unfold eV;simp⟩,
 fun p hp=>by simp only[eV,Bd,Bf,or_false]at hp;subst hp;decide +kernel,fun p hp=>by simp only[eV,Bd,Bf,or_false]at hp;subst hp;exact(qd (by decide +kernel)).mono dd⟩
theorem kbs:ky eV 1=some 1:=rfl
theorem ybs:ky eV 2=none:=rfl
theorem yak:ke eV eA.t=[⟨2,1/2⟩]:=rfl
theorem qc4:atI eA eV=⟨21/2,23/2⟩:=by
 unfold atI;rw[yak,show yj eV eA.c eA.t eA.t.length=11 by decide +kernel,show rad ⟨0,[⟨2,1/2⟩],eA.r⟩=1/2 by decide +kernel];congr 1<;>decide +kernel
theorem vcP:AtF eA eV:=by
 refine⟨fun k hk v hv => ?_,fun k hk v hv => ?_,?_,?_,?_⟩
 ·rcases(show k=0\/k=1 by have:k<2:=hk;omega)with rfl|rfl
  ·obtain rfl:v=1:=(Di (hv.symm.trans kbs))
   exact DS (j:=9) (k:=9) (qd (by decide +kernel)) (qd (by decide +kernel)) dd
  ·cases (hv.symm.trans ybs)
 ·rcases(show k=0\/k=1 by have:k<2:=hk;omega)with rfl|rfl
  ·obtain rfl:v=1:=(Di (hv.symm.trans kbs))
   exact Ct (j:=9) (k:=9) (qd (by decide +kernel)) (qd (by decide +kernel)) dd
  ·cases (hv.symm.trans ybs)
 ·rw[yak];exact⟨⟨(qd (by decide +kernel):QDig 9 0).mono dd,fun p hp=>by simp only[Bd,Bf,or_false]at hp;subst hp;exact(qd (by decide +kernel)).mono dd,(qd (by decide +kernel):QDig 9 eA.r).mono dd⟩,fun k hk=>by
   obtain rfl:k=0:=by have:k<1:=hk;omega
   exact Ct (j:=9) (k:=9) (qd (by decide +kernel)) (qd (by decide +kernel)) dd,Ct (j:=9) (k:=9) (qd (by decide +kernel)) (qd (by decide +kernel)) dd⟩
 ·rw[yak];exact SF.of (j:=9) (k:=9) (qd (by decide +kernel)) (qd (by decide +kernel)) dd
 ·rw[yak];exact Ct (j:=9) (k:=9) (qd (by decide +kernel)) (qd (by decide +kernel)) dd
theorem vab{p q:Rat}{a b:Frm}(ha:a.Ok)(hb:b.Ok)(h:a.t.length+b.t.length<=64):(lin p q a.t b.t).length<=64:=Bb (vbt ha.src hb.src).len h
theorem qbT:CombF 1 (-1) eA eB:=CombF.of (j:=9) (k:=9) (qd (by decide +kernel)) (qd (by decide +kernel)) eA_dig eB_dig dd (vab kaq vbf dd)
theorem zbT:CombF 1 (-1) eA eA:=CombF.of (j:=9) (k:=9) (qd (by decide +kernel)) (qd (by decide +kernel)) eA_dig eA_dig dd (vab kaq kaq dd)
theorem kcg:kC 1 (-1) eA eA=ki 0:=by rw[kaY kaq];unfold ki;congr 1;decide +kernel
def eD:Frm:=⟨6,[⟨1,-1⟩,⟨2,1/2⟩],0⟩
def eM:Frm:=⟨40,[⟨1,24⟩,⟨2,2⟩],3⟩
def eI:Frm:=⟨1/4,[⟨1,-1/6⟩],1/12⟩
theorem yaI{s:Nat}{a b:Rat}(h:a=b):(⟨s,a⟩:Trm)=⟨s,b⟩:=h ▸ rfl
theorem ycg:kC 1 (-1) eA eB=eD:=by
 have hl:lin 1 (-1) eA.t eB.t=eD.t:=by
  show lin 1 (-1) [⟨1,1⟩,⟨2,1/2⟩] [⟨1,2⟩]=[⟨1,-1⟩,⟨2,1/2⟩];rw[qI,if_neg dd,if_neg dd,yK,zD];unfold ahead;rw[if_neg (by decide +kernel),if_neg (by decide +kernel),yaI (show(1:Rat)*1 + -1*2 = -1 by decide +kernel),yaI (show(1:Rat)*(1/2)=1/2 by decide +kernel)]
 unfold kC;rw[hl];unfold eD;congr 1<;>decide +kernel
theorem vcA:zca eA eB=eM:=by
 have hl:lin eB.c eA.c eA.t eB.t=eM.t:=by
  show lin 4 10 [⟨1,1⟩,⟨2,1/2⟩] [⟨1,2⟩]=[⟨1,24⟩,⟨2,2⟩];rw[qI,if_neg dd,if_neg dd,yK,zD];unfold ahead;rw[if_neg (by decide +kernel),if_neg (by decide +kernel),yaI (show(4:Rat)*1+10*2=24 by decide +kernel),yaI (show(4:Rat)*(1/2)=2 by decide +kernel)]
 unfold zca;rw[hl,zbs,qbs];unfold eM;congr 1<;>decide +kernel
theorem vcg:MulF eA eB where
 lin:=LinF.of (j:=9) (k:=9) eB_dig.c eA_dig.c eA_dig eB_dig dd (vab kaq vbf dd)
 c:=DS eA_dig.c eB_dig.c dd
 ra:=jbT
 rb:=ybT
 rr:=by rw[zbs,qbs];exact DS (j:=9) (k:=9) (qd (by decide +kernel)) (qd (by decide +kernel)) dd
 rs:=by rw[zbs,qbs];exact Ct (j:=9) (k:=9) (qd (by decide +kernel)) (qd (by decide +kernel)) dd
theorem yaS:kC (-1/12) 0 eB (ki 0)=⟨-1/3,[⟨1,-1/6⟩],0⟩:=by
 have hl:lin (-1/12) 0 eB.t (ki 0).t=[⟨1,-1/6⟩]:=by
  show lin (-1/12) 0 [⟨1,2⟩] []=[⟨1,-1/6⟩];rw[yK,zD];unfold ahead;rw[if_neg (by decide +kernel),yaI (show(-1/12:Rat)*2 = -1/6 by decide +kernel)]
 unfold kC;rw[hl];congr 1<;>decide +kernel
theorem qch:CombF (-1/12) 0 eB (ki 0):=CombF.of (j:=9) (k:=9) (qd (by decide +kernel)) (qd (by decide +kernel)) eB_dig (jbs 0 (qd (by decide +kernel))) dd (vab vbf (zac 0) dd)
theorem jcB:LineF (-1/12) (1/2) (2/3) eB where
 sc:=qch
 uv:=Ct (j:=9) (k:=9) (qd (by decide +kernel)) (qd (by decide +kernel)) dd
 d1:=DF.of (j:=9) (k:=9) (qd (by decide +kernel)) (qd (by decide +kernel)) dd (by decide +kernel)
 c:=by rw[yaS];exact Ct (j:=9) (k:=9) (qd (by decide +kernel)) (qd (by decide +kernel)) dd
 vu:=SF.of (j:=9) (k:=9) (qd (by decide +kernel)) (qd (by decide +kernel)) dd
 d2:=DF.of (j:=9) (k:=9) (qd (by decide +kernel)) (qd (by decide +kernel)) dd (by decide +kernel)
 r:=by rw[yaS];exact Ct (j:=9) (k:=9) (qd (by decide +kernel)) (qd (by decide +kernel)) dd
theorem jc9:(-1/(2*6):Rat) = -1/12:=by decide +kernel
theorem kc9:(4/(2+6):Rat)=1/2:=by decide +kernel
theorem yc9:(1/2+1/6:Rat)=2/3:=by decide +kernel
theorem qcQ:vcJ eB=eI:=by
 unfold vcJ;rw[qB,jc9,kc9,yc9];unfold zax;rw[yaS];unfold eI;congr 1<;>decide +kernel
theorem qcB:InvF eB where
 r:=vbT
 pos:=by rw[qB];decide +kernel
 le:=by rw[qB];decide +kernel
 dl:=by rw[qB];exact(qd (by decide +kernel)).mono dd
 dh:=by rw[qB];exact(qd (by decide +kernel)).mono dd
 lh:=by rw[qB];exact DS (j:=9) (k:=9) (qd (by decide +kernel)) (qd (by decide +kernel)) dd
 s:=by rw[qB];exact DF.of (j:=9) (k:=9) (qd (by decide +kernel)) (qd (by decide +kernel)) dd (by decide +kernel)
 sm:=by rw[qB];exact Ct (j:=9) (k:=9) (qd (by decide +kernel)) (qd (by decide +kernel)) dd
 u:=by rw[qB];exact DF.of (j:=9) (k:=9) (qd (by decide +kernel)) (qd (by decide +kernel)) dd (by decide +kernel)
 v1:=by rw[qB];exact DF.of (j:=9) (k:=9) (qd (by decide +kernel)) (qd (by decide +kernel)) dd (by decide +kernel)
 v2:=by rw[qB];exact DF.of (j:=9) (k:=9) (qd (by decide +kernel)) (qd (by decide +kernel)) dd (by decide +kernel)
 v:=by rw[qB];exact Ct (j:=9) (k:=9) (qd (by decide +kernel)) (qd (by decide +kernel)) dd
 ln:=by rw[qB,jc9,kc9,yc9];exact jcB
theorem jc4:SrcsOk eS:=⟨by decide,⟨fun p hp=>by simp only[eS,Bd,Bf,or_false]at hp;rcases hp with rfl|rfl<;>decide,by unfold eS;simp⟩,
 fun p hp=>by simp only[eS,Bd,Bf,or_false]at hp;rcases hp with rfl|rfl<;>decide +kernel,fun p hp=>by simp only[eS,Bd,Bf,or_false]at hp;rcases hp with rfl|rfl<;>exact(qd (by decide +kernel)).mono dd⟩
theorem jch:zbd eS (eA.t++eB.t):=fun t ht=>by
 simp only[eA,eB,BM,Co,Bd,Bf,or_false]at ht;rcases ht with rfl|rfl|rfl
 ·exact⟨0,by decide,rfl⟩
 ·exact⟨1,by decide,rfl⟩
 ·exact⟨0,by decide,rfl⟩
theorem kcQ:vB eA.t eB.t eS eS.length=2/3:=by decide +kernel
theorem kcB:CovF eA.t eB.t eS:=by
 refine⟨fun k hk => ?_,fun k hk => ?_,fun k hk => ?_⟩<;>rcases(show k=0\/k=1 by have:k<2:=hk;omega)with rfl|rfl
 ·exact DS (j:=9) (k:=9) (qd (by decide +kernel)) (qd (by decide +kernel)) dd
 ·exact DS (j:=9) (k:=9) (qd (by decide +kernel)) (qd (by decide +kernel)) dd
 ·exact DS (j:=9) (k:=9) (qd (by decide +kernel)) (qd (by decide +kernel)) dd
 ·exact DS (j:=9) (k:=9) (qd (by decide +kernel)) (qd (by decide +kernel)) dd
 ·exact Ct (j:=9) (k:=9) (qd (by decide +kernel)) (qd (by decide +kernel)) dd
 ·exact Ct (j:=9) (k:=9) (qd (by decide +kernel)) (qd (by decide +kernel)) dd
theorem vax:yh (ki 4)=⟨4,4⟩:=by unfold yh;congr 1<;>decide +kernel
theorem vbQ:RangeF (ki 4):=⟨⟨(jbs 4 (qd (by decide +kernel))).mono dd,fun k hk=>absurd hk (by simp[ki]),Ct (j:=9) (k:=9) (qd (by decide +kernel)) (qd (by decide +kernel)) dd⟩,SF.of (j:=9) (k:=9) (qd (by decide +kernel)) (qd (by decide +kernel)) dd,Ct (j:=9) (k:=9) (qd (by decide +kernel)) (qd (by decide +kernel)) dd⟩
theorem kcz:SqrtI (yh (ki 4)) (TT 2) ⟨2,2⟩:=by
 rw[vax];refine⟨⟨200,?_,by decide +kernel⟩,⟨200,?_,.inl ⟨?_,by decide +kernel⟩⟩⟩
 ·unfold yz;decide +kernel
 ·unfold yz;decide +kernel
 ·unfold yW;decide +kernel
theorem qaR:kC (1/4) 0 (ki 4) (ki 0)=ki 1:=by
 unfold kC;rw[show lin (1/4) 0 (ki 4).t (ki 0).t=[] from zD _ _];unfold ki;congr 1<;>decide +kernel
theorem jcz:LineF (1/4) 1 1 (ki 4) where
 sc:=CombF.of (j:=9) (k:=9) (qd (by decide +kernel)) (qd (by decide +kernel)) (jbs 4 (qd (by decide +kernel))) (jbs 0 (qd (by decide +kernel))) dd (vab (zac 4) (zac 0) dd)
 uv:=Ct (j:=9) (k:=9) (qd (by decide +kernel)) (qd (by decide +kernel)) dd
 d1:=DF.of (j:=9) (k:=9) (qd (by decide +kernel)) (qd (by decide +kernel)) dd (by decide +kernel)
 c:=by rw[qaR];exact Ct (j:=9) (k:=9) (qd (by decide +kernel)) (qd (by decide +kernel)) dd
 vu:=SF.of (j:=9) (k:=9) (qd (by decide +kernel)) (qd (by decide +kernel)) dd
 d2:=DF.of (j:=9) (k:=9) (qd (by decide +kernel)) (qd (by decide +kernel)) dd (by decide +kernel)
 r:=by rw[qaR];exact Ct (j:=9) (k:=9) (qd (by decide +kernel)) (qd (by decide +kernel)) dd
theorem vcO:(1/(2+2):Rat)=1/4:=by decide +kernel
theorem zcP:(2*2/(2+2):Rat)=1:=by decide +kernel
theorem qcP:((2+2)/4:Rat)=1:=by decide +kernel
theorem ycz:qbJ ⟨2,2⟩ (ki 4)=ki 2:=by
 unfold qbJ;rw[vcO,zcP,qcP];unfold zax;rw[qaR];unfold ki;congr 1<;>decide +kernel
theorem kce:SqrtF 9 2 ⟨2,2⟩ (ki 4) where
 r:=vbQ
 j0:=by decide
 jp:=by decide
 p30:=by decide
 da:=by rw[vax];exact⟨qd (by decide +kernel),qd (by decide +kernel)⟩
 ok:=by rw[vax];exact CI
 pos:=by rw[vax];decide +kernel
 root:=kcz
 nz:=by decide +kernel
 ds:=(qd (by decide +kernel)).mono dd
 sm:=Ct (j:=9) (k:=9) (qd (by decide +kernel)) (qd (by decide +kernel)) dd
 d1:=DF.of (j:=9) (k:=9) (qd (by decide +kernel)) (qd (by decide +kernel)) dd (by decide +kernel)
 m:=DS (j:=9) (k:=9) (qd (by decide +kernel)) (qd (by decide +kernel)) dd
 d2:=DF.of (j:=9) (k:=9) (qd (by decide +kernel)) (qd (by decide +kernel)) dd (by decide +kernel)
 d3:=DF.of (j:=9) (k:=9) (qd (by decide +kernel)) (qd (by decide +kernel)) dd (by decide +kernel)
 ln:=by show LineF (1/(2+2)) (2*2/(2+2)) ((2+2)/4) (ki 4);rw[vcO,zcP,qcP];exact jcz
end Go.Proofs.YtdiecekagiledaaGreatDoor
namespace Go.Proofs.YtdiecekagiledaaGreatDoor
open Go Go.RowKit Go.Lib Go.Shelf Go.Proofs.Tryz
attribute [local go_sem] yg
theorem vaw{a b:ByteArray}(h:a≠b):(a.toList==b.toList)=false:=by
 rw[beq_eq_false_iff_ne];intro e;apply h;rw[ByteArray.toList_eq,ByteArray.toList_eq]at e;exact ByteArray.ext (Array.toList_inj.mp e)
theorem yb8{l m:List RT}(hl:l.length=m.length)(h:∀ i,i<l.length->uD l i=uD m i):l=m:=by
 apply Dz hl;intro i h1 h2;have:=h i h1;unfold uD at this;rw[Ap,Ap,Ay h1,Ay h2]at this;exact this
theorem ycH{l k:List RT}{B:Bool}(hb:B=true↔l=k)(p pk:En)(n m c d:Nat)(hn:l.length=n)(hm:k.length=m)(hn1:n<=1000000)(w:World)(hp:UAt 34 w p l)(hq:UAt 34 w pk k) :
  Calls prog 51 #[.slice p n c,.slice pk m d] w (qa B w):=by
 have hB:=Ab w;have hnb:(n:Int)<=1000000:=oo
 have HP:=hid hp;have HQ:=hid hq;have HN:=hid hn;have HM:=hid hm;have HBI:=hid hb;clear hp hq hn hm hb;go_enter func51,ntmps51;by_cases hnm:n=m
 ·subst hnm;go_wp2_with fail;go_loopw[13] (fun v13 wr=>∃ i:Nat,v13=.int .i64 (i:Int)/\i<=n/\Hid (∀ j,j<i->uD l j=uD k j)/\Aa w wr) (fun v13 _=>(n-RowKit.intOf v13).toNat)
  case atStart=>exact⟨0,rfl,Bt _,hid (fun j hj=>absurd hj (Cn j)),hB⟩
  case round =>
   clear hB;obtain⟨i,rfl,him,HI,hB⟩:=hrel;rcases AJ i n with hlt|hge
   ·have hl1:i<l.length:=by rw[HN.out];exact hlt
    have hl2:i<k.length:=by rw[HM.out];exact hlt
    have hiI:(i:Int)<(n:Int):=oo
    obtain⟨g,cur,hpg,rg,g0,g1,g2⟩:=Eh (Ai HP.out hB) hl1;obtain⟨q,cuk,hqk,rq,k0,k1,k2⟩:=Eh (Ai HQ.out hB) hl2;subst hpg hqk;obtain⟨x,hx⟩:∃ x,x=uD l i:=⟨_,rfl⟩
    obtain⟨y,hy⟩:∃ y,y=uD k i:=⟨_,rfl⟩
    rw[<- hx]at g0 g1 g2;rw[<- hy]at k0 k1 k2;obtain⟨xs,xa,xb⟩:=x;obtain⟨ys,ya,yb⟩:=y;dsimp only at g0 g1 g2 k0 k1 k2;have HX:=hid hx;have HY:=hid hy;clear hx hy;by_cases hs:xs=ys
    ·subst hs;by_cases ha:xa=ya
     ·subst ha;by_cases hb9:xb=yb
      ·subst hb9;have HE:uD l i=uD k i:=by rw[<- HX.out,<- HY.out]
       have HEE:=hid HE;clear HE HX HY;have Fg:=Eo rg g0 g1 g2
       have sg:=Fg _ rg;have Fq:=Eo rq k0 k1 k2
       have sq:=Fq _ rq;have hfy:=hid hiI;go_wp2_with fail;refine jc [.slice (some ⟨g,0,none⟩) n c,.int .i64 (i:Int),.pointer (some ⟨g,i*3,none⟩),.agg #[.int .i64 xs,.string xa,.string xb],.slice (some ⟨q,0,none⟩) n d,.int .i64 (i:Int),.pointer (some ⟨q,i*3,none⟩),.agg #[.int .i64 xs,.string xa,.string xb],.bool false] kr9 kr9 rfl (vC9 qv0 (vC9 qv0 (vC9 (qvf hfy.out) (vC9 (qv1 fun X h=>Fg X (Ae rg h)) (vC9 qv0 (vC9 qv0 (vC9 (qvf hfy.out) (vC9 (qv1 fun X h=>Fq X (Ae rq h)) (vC9 (qvf hfy.out) trivial))))))))) ?_;rintro W h1;have stp:=St2 hB h1 rg rq;clear hB h1 rg sg rq sq;obtain⟨hB,rg,rq⟩:=stp;have sg:=Fg _ rg;have sq:=Fq _ rq;simp only[ve,Ah,Ak,Al];go_wp2;go_roundw
       case rel=>exact⟨i+1,by go_num,oo,hid (fun j hj=>by rcases AU.1 hj with h|rfl;(· exact HI.out j h);(· exact HEE.out)),BW⟩
       case measure=>exact El
      ·have hf:=vaw hb9;have hb:B=false:=AP.2 fun e=>by have h7:=congrArg (fun l=>uD l i) (HBI.out.1 e);simp only[<- HX.out,<- HY.out]at h7;injection h7 with h8 h9 h10;exact hb9 h10
       subst hb;clear HX HY;have Fg:=Eo rg g0 g1 g2
       have sg:=Fg _ rg;have Fq:=Eo rq k0 k1 k2
       have sq:=Fq _ rq;have hfy:=hid (AD hiI hf);go_wp2_with fail;refine jc [.slice (some ⟨g,0,none⟩) n c,.int .i64 (i:Int),.pointer (some ⟨g,i*3,none⟩),.agg #[.int .i64 xs,.string xa,.string xb],.slice (some ⟨q,0,none⟩) n d,.int .i64 (i:Int),.pointer (some ⟨q,i*3,none⟩),.agg #[.int .i64 xs,.string xa,.string yb],.bool true] kr9 kr9 rfl (vC9 qv0 (vC9 qv0 (vC9 (qvf hfy.out) (vC9 (qv1 fun X h=>Fg X (Ae rg h)) (vC9 qv0 (vC9 qv0 (vC9 (qvf hfy.out) (vC9 (qv1 fun X h=>Fq X (Ae rq h)) (vC9 (qvf hfy.out) trivial))))))))) ?_;rintro W h1;have stp:=St2 hB h1 rg rq;clear hB h1 rg sg rq sq;obtain⟨hB,rg,rq⟩:=stp;have sg:=Fg _ rg;have sq:=Fq _ rq;simp only[ve,Ah,Ak,Al];go_wp2;go_ret;exact⟨rfl,hB⟩
     ·have hf:=vaw ha;have hb:B=false:=AP.2 fun e=>by have h7:=congrArg (fun l=>uD l i) (HBI.out.1 e);simp only[<- HX.out,<- HY.out]at h7;injection h7 with h8 h9 h10;exact ha h9
      subst hb;clear HX HY;have Fg:=Eo rg g0 g1 g2
      have sg:=Fg _ rg;have Fq:=Eo rq k0 k1 k2
      have sq:=Fq _ rq;have hfy:=hid (AD hiI hf);go_wp2_with fail;refine jc [.slice (some ⟨g,0,none⟩) n c,.int .i64 (i:Int),.pointer (some ⟨g,i*3,none⟩),.agg #[.int .i64 xs,.string xa,.string xb],.slice (some ⟨q,0,none⟩) n d,.int .i64 (i:Int),.pointer (some ⟨q,i*3,none⟩),.agg #[.int .i64 xs,.string ya,.string yb],.bool true] kr9 kr9 rfl (vC9 qv0 (vC9 qv0 (vC9 (qvf hfy.out) (vC9 (qv1 fun X h=>Fg X (Ae rg h)) (vC9 qv0 (vC9 qv0 (vC9 (qvf hfy.out) (vC9 (qv1 fun X h=>Fq X (Ae rq h)) (vC9 (qvf hfy.out) trivial))))))))) ?_;rintro W h1;have stp:=St2 hB h1 rg rq;clear hB h1 rg sg rq sq;obtain⟨hB,rg,rq⟩:=stp;have sg:=Fg _ rg;have sq:=Fq _ rq;simp only[ve,Ah,Ak,Al];go_wp2;go_ret;exact⟨rfl,hB⟩
    ·have hb:B=false:=AP.2 fun e=>by have h7:=congrArg (fun l=>uD l i) (HBI.out.1 e);simp only[<- HX.out,<- HY.out]at h7;injection h7 with h8 h9 h10;exact hs h8
     subst hb;clear HX HY;have Fg:=Eo rg g0 g1 g2
     have sg:=Fg _ rg;have Fq:=Eo rq k0 k1 k2
     have sq:=Fq _ rq;have hfy:=hid (AD hiI hs);go_wp2_with fail;refine jc [.slice (some ⟨g,0,none⟩) n c,.int .i64 (i:Int),.pointer (some ⟨g,i*3,none⟩),.agg #[.int .i64 xs,.string xa,.string xb],.slice (some ⟨q,0,none⟩) n d,.int .i64 (i:Int),.pointer (some ⟨q,i*3,none⟩),.agg #[.int .i64 ys,.string ya,.string yb],.bool true] kr9 kr9 rfl (vC9 qv0 (vC9 qv0 (vC9 (qvf hfy.out) (vC9 (qv1 fun X h=>Fg X (Ae rg h)) (vC9 qv0 (vC9 qv0 (vC9 (qvf hfy.out) (vC9 (qv1 fun X h=>Fq X (Ae rq h)) (vC9 (qvf hfy.out) trivial))))))))) ?_;rintro W h1;have stp:=St2 hB h1 rg rq;clear hB h1 rg sg rq sq;obtain⟨hB,rg,rq⟩:=stp;have sg:=Fg _ rg;have sq:=Fq _ rq;simp only[ve,Ah,Ak,Al];go_wp2;go_ret;exact⟨rfl,hB⟩
   ·obtain rfl:n=i:=oo
    have hb:B=true:=HBI.out.2 (yb8 (by rw[HN.out,HM.out]) (fun j hj=>HI.out j (by rw[<- HN.out];exact hj)));subst hb;go_wp2;go_ret;exact⟨rfl,hB⟩
 ·have hnI:¬ (n:Int)=(m:Int):=oo
  have hb:B=false:=AP.2 fun e=>hnm (by rw[<- HN.out,<- HM.out,HBI.out.1 e])
  subst hb;go_wp2;go_ret;exact⟨rfl,hB⟩
theorem jbP{x y:RFm}{B:Bool}(hb:B=true↔x=y)(hx1:x.l.length<=1000000)(p pk:En)(c d:Nat)(w:World)(hp:UAt 34 w p x.l)(hq:UAt 34 w pk y.l):Calls prog 19 #[RV x p c,RV y pk d] w (qa B w):=by
 have hB:=Ab w;have HP:=hid hp;have HQ:=hid hq;obtain⟨n,hn⟩:∃ n,x.l.length=n:=⟨_,rfl⟩
 obtain⟨m,hm⟩:∃ n,y.l.length=n:=⟨_,rfl⟩
 unfold RV;rw[hn,hm];rw[hn]at hx1;have hnb:(n:Int)<=1000000:=oo
 have HBI:=hid hb;obtain⟨x1,x2,l,x3,x4⟩:=x;obtain⟨y1,y2,k,y3,y4⟩:=y;dsimp only at *;have HN:=hid hn;have HM:=hid hm;clear hp hq hn hm hb;have MT:=fun W (C:Bool) (hc:C=true↔l=k) (h1:UAt 34 W p l) (h2:UAt 34 W pk k)=>ycH hc p pk n m c d HN.out HM.out hx1 W h1 h2
 unfold qa at MT;go_enter func19,ntmps19;go_upto_region 1 with fail;have sB:=hB.size;refine zi (fun X=>Aa w X/\Row X w.heap.size (.cells #[.string x1,.string x2,.slice p n c,.string x3,.string x4] 26)/\Row X (w.heap.size+1) (.cells #[.string y1,.string y2,.slice pk m d,.string y3,.string y4] 26)) ⟨BW,RW8,RW8⟩ ?_;clear hB sB;rintro V1⟨hB,ra,rb⟩;have sa:=RF5 ra;have sb:=RF5 rb;by_cases h0:x1=y1
 ·subst h0;by_cases h1:x2=y2
  ·subst h1;by_cases h2:x3=y3
   ·subst h2;by_cases h3:x4=y4
    ·subst h3;have hc:B=true↔l=k:=⟨fun e=>by have h7:=HBI.out.1 e;injection h7,fun e=>HBI.out.2 (by rw[e])⟩
     have MT:=fun W=>MT W B hc
     clear hc;have sa:=RF5 ra;have sb:=RF5 rb;go_wp2_with fail;refine(MT _ (Ai HP.out hB) (Ai HQ.out hB)).mono ?_;rintro e W2⟨rfl,h1⟩;have stp:=St2 hB h1 ra rb;clear hB h1 ra sa rb sb;obtain⟨hB,ra,rb⟩:=stp;have sa:=RF5 ra;have sb:=RF5 rb;go_wp2;go_ret;exact⟨rfl,hB⟩
    ·have hf:=vaw h3;have hb:B=false:=AP.2 fun e=>by have h7:=HBI.out.1 e;injection h7 with e1 e2 e3 e4 e5;exact h3 e5
     subst hb;have sa:=RF5 ra;have sb:=RF5 rb;have hfy:=hid hf;go_upto_region 1 with fail;refine zk [.pointer (some ⟨w.heap.size,0,none⟩),.agg #[.string x1,.string x2],.pointer (some ⟨w.heap.size+1,0,none⟩),.agg #[.string x1,.string x2],.bool true,.bool true,.pointer (some ⟨w.heap.size,3,none⟩),.agg #[.string x3,.string x4],.pointer (some ⟨w.heap.size+1,3,none⟩),.agg #[.string x3,.string y4],.bool false,.bool false,.bool false,undef,undef,undef,undef,undef,.bool false,.bool false] kr9 rfl (vC9 qv0 (vC9 (qv1 fun X h=>RF5 (Ae ra h)) (vC9 qv0 (vC9 (qv1 fun X h=>RF5 (Ae rb h)) (vC9 (qvf hfy.out) (vC9 qv0 (vC9 qv0 (vC9 (qv1 fun X h=>RF5 (Ae ra h)) (vC9 qv0 (vC9 (qv1 fun X h=>RF5 (Ae rb h)) (vC9 (qvf hfy.out) (vC9 (qvf hfy.out) (vC9 qv0 (vC9 qv0 (vC9 qv0 (vC9 qv0 (vC9 qv0 (vC9 qv0 (vC9 (qvf hfy.out) (vC9 qv0 trivial)))))))))))))))))))) ?_;rintro W h1;have stp:=St2 hB h1 ra rb;clear hB h1 ra sa rb sb;obtain⟨hB,ra,rb⟩:=stp;have sa:=RF5 ra;have sb:=RF5 rb;simp only[ve,Ah,Ak,Al];go_wp2;go_ret;exact⟨rfl,hB⟩
   ·have hf:=vaw h2;have hb:B=false:=AP.2 fun e=>by have h7:=HBI.out.1 e;injection h7 with e1 e2 e3 e4 e5;exact h2 e4
    subst hb;have sa:=RF5 ra;have sb:=RF5 rb;have hfy:=hid hf;go_upto_region 1 with fail;refine zk [.pointer (some ⟨w.heap.size,0,none⟩),.agg #[.string x1,.string x2],.pointer (some ⟨w.heap.size+1,0,none⟩),.agg #[.string x1,.string x2],.bool true,.bool true,.pointer (some ⟨w.heap.size,3,none⟩),.agg #[.string x3,.string x4],.pointer (some ⟨w.heap.size+1,3,none⟩),.agg #[.string y3,.string y4],.bool false,.bool false,.bool false,undef,undef,undef,undef,undef,.bool false,.bool false] kr9 rfl (vC9 qv0 (vC9 (qv1 fun X h=>RF5 (Ae ra h)) (vC9 qv0 (vC9 (qv1 fun X h=>RF5 (Ae rb h)) (vC9 (qvf hfy.out) (vC9 qv0 (vC9 qv0 (vC9 (qv1 fun X h=>RF5 (Ae ra h)) (vC9 qv0 (vC9 (qv1 fun X h=>RF5 (Ae rb h)) (vC9 (qvf hfy.out) (vC9 (qvf hfy.out) (vC9 qv0 (vC9 qv0 (vC9 qv0 (vC9 qv0 (vC9 qv0 (vC9 qv0 (vC9 (qvf hfy.out) (vC9 qv0 trivial)))))))))))))))))))) ?_;rintro W h1;have stp:=St2 hB h1 ra rb;clear hB h1 ra sa rb sb;obtain⟨hB,ra,rb⟩:=stp;have sa:=RF5 ra;have sb:=RF5 rb;simp only[ve,Ah,Ak,Al];go_wp2;go_ret;exact⟨rfl,hB⟩
  ·have hf:=vaw h1;have hb:B=false:=AP.2 fun e=>by have h7:=HBI.out.1 e;injection h7 with e1 e2 e3 e4 e5;exact h1 e2
   subst hb;have sa:=RF5 ra;have sb:=RF5 rb;have hfy:=hid hf;go_upto_region 1 with fail;refine zk [.pointer (some ⟨w.heap.size,0,none⟩),.agg #[.string x1,.string x2],.pointer (some ⟨w.heap.size+1,0,none⟩),.agg #[.string x1,.string y2],.bool false,.bool false,undef,undef,undef,undef,undef,.bool false,.bool false,undef,undef,undef,undef,undef,.bool false,.bool false] kr9 rfl (vC9 qv0 (vC9 (qv1 fun X h=>RF5 (Ae ra h)) (vC9 qv0 (vC9 (qv1 fun X h=>RF5 (Ae rb h)) (vC9 (qvf hfy.out) (vC9 qv0 (vC9 qv0 (vC9 qv0 (vC9 qv0 (vC9 qv0 (vC9 qv0 (vC9 (qvf hfy.out) (vC9 qv0 (vC9 qv0 (vC9 qv0 (vC9 qv0 (vC9 qv0 (vC9 qv0 (vC9 (qvf hfy.out) (vC9 qv0 trivial)))))))))))))))))))) ?_;rintro W h1;have stp:=St2 hB h1 ra rb;clear hB h1 ra sa rb sb;obtain⟨hB,ra,rb⟩:=stp;have sa:=RF5 ra;have sb:=RF5 rb;simp only[ve,Ah,Ak,Al];go_wp2;go_ret;exact⟨rfl,hB⟩
 ·have hf:=vaw h0;have hb:B=false:=AP.2 fun e=>by have h7:=HBI.out.1 e;injection h7 with e1 e2 e3 e4 e5;exact h0 e1
  subst hb;have sa:=RF5 ra;have sb:=RF5 rb;have hfy:=hid hf;go_upto_region 1 with fail;refine zk [.pointer (some ⟨w.heap.size,0,none⟩),.agg #[.string x1,.string x2],.pointer (some ⟨w.heap.size+1,0,none⟩),.agg #[.string y1,.string y2],.bool false,.bool false,undef,undef,undef,undef,undef,.bool false,.bool false,undef,undef,undef,undef,undef,.bool false,.bool false] kr9 rfl (vC9 qv0 (vC9 (qv1 fun X h=>RF5 (Ae ra h)) (vC9 qv0 (vC9 (qv1 fun X h=>RF5 (Ae rb h)) (vC9 (qvf hfy.out) (vC9 qv0 (vC9 qv0 (vC9 qv0 (vC9 qv0 (vC9 qv0 (vC9 qv0 (vC9 (qvf hfy.out) (vC9 qv0 (vC9 qv0 (vC9 qv0 (vC9 qv0 (vC9 qv0 (vC9 qv0 (vC9 (qvf hfy.out) (vC9 qv0 trivial)))))))))))))))))))) ?_;rintro W h1;have stp:=St2 hB h1 ra rb;clear hB h1 ra sa rb sb;obtain⟨hB,ra,rb⟩:=stp;have sa:=RF5 ra;have sb:=RF5 rb;simp only[ve,Ah,Ak,Al];go_wp2;go_ret;exact⟨rfl,hB⟩
theorem qbP{f:Frm}(hn1:f.t.length<=1000000)(p q:En)(c d:Nat)(w:World)(hp:TAt 34 w p f.t)(hq:TAt 34 w q f.t) :
  Calls prog 19 #[FV f p c,FV f q d] w (qa true w):=by
 have h:=jbP (x:=f.rfm) (y:=f.rfm) (B:=true) ⟨fun _=>rfl,fun _=>rfl⟩ (by show(kN f.t).length<=1000000;rw[kf];exact hn1) p q c d w hp hq;rw[qY,qY]at h;exact h
end Go.Proofs.YtdiecekagiledaaGreatDoor
