/-
 Package affine: Sqrt, where the root is not 0 and nothing is too large. Affine, plain: the fixed examples that each law checks first. Package affine: Same, at two forms that are equal.
-/
import Derived.Test.YtdikaoahgleffaaGreatDoorWACov
import Derived.Test.YtdikaoahgleffaaGreatDoorWAInverse
import Derived.Test.YtdikaoahgleffaaGreatDoorWALine
import Derived.Test.YtdikaoahgleffaaGreatDoorWALinear
import Derived.Test.YtdikaoahgleffaaGreatDoorWESqrt
set_option linter.unusedSimpArgs false
set_option linter.unusedVariables false
set_option maxRecDepth 100000
set_option maxHeartbeats 16000000
namespace Go.Proofs.YtdikaoahgleffaaGreatDoor
open Go Go.RowKit Go.Lib Go.Shelf
attribute [local go_sem] normalQ
theorem SqrtI.unique {a s t:Iv} {T:Int} (hT:0<T) (h:SqrtI a T s) (k:SqrtI a T t):s=t:=by
 have e1:s.lo=t.lo:=Rat.le_antisymm (h.1.mono hT k.1 Rat.le_refl) (k.1.mono hT h.1 Rat.le_refl);have e2:s.hi=t.hi:=Rat.le_antisymm (h.2.mono hT k.2 Rat.le_refl) (k.2.mono hT h.2 Rat.le_refl)
 cases s;cases t;simp only at e1 e2;rw [e1,e2]
theorem esqrt_is {j:Nat} {a s:Iv} {p:Nat} (hs:SqrtI a (TT p) s) (da:IDig j a) (hj:0<j) (oa:a.Ok) (hp:p≤30) (hjp:j+p+p+1≤200) (h0:0≤a.lo) (w:World) (he:Env w) :
  Calls Tryz.prog 85 #[I a,.int .i64 (p:Int)] w (IvOk s w):=(esqrt da hj oa hp hjp h0 w he).mono fun e w' ⟨s',h1,h2,h3⟩=>by
 obtain rfl:=hs.unique (TT_pos p) h1;exact ⟨h2,h3⟩
def sqrtF (s:Iv) (a:Frm):Frm:=lineF (1 / (s.lo+s.hi)) (s.lo * s.hi / (s.lo+s.hi)) ((s.lo+s.hi) / 4) a
structure SqrtF (j p:Nat) (s:Iv) (a:Frm):Prop where
 r:RangeF a
 j0:0<j
 jp:j+p+p+1≤200
 p30:p≤30
 da:IDig j (rangeI a)
 ok:(rangeI a).Ok
 pos:0≤(rangeI a).lo
 root:SqrtI (rangeI a) (TT p) s
 nz:s.hi≠0
 ds:QDig 200 s.hi
 sm:AF s.lo s.hi
 d1:DF 1 (s.lo+s.hi)
 m:MF s.lo s.hi
 d2:DF (s.lo * s.hi) (s.lo+s.hi)
 d3:DF (s.lo+s.hi) 4
 ln:LineF (1 / (s.lo+s.hi)) (s.lo * s.hi / (s.lo+s.hi)) ((s.lo+s.hi) / 4) a
theorem asqrt1 {j p:Nat} {s:Iv} {a:Frm} (h:SqrtF j p s a) (oa:a.Ok) (pa:Option Addr) (ca:Nat) (ba bn:Nat) (w:World) (ra:Row w ba (oF a.c a.r pa a.t.length ca)) (rn:Row w bn (.cells #[.int .i64 (p:Int)] 3)) (hpa:TAt 55 w pa a.t) (he:Env w):Calls Tryz.prog 84 #[.pointer (some ⟨ba,0,none⟩),.pointer (some ⟨bn,0,none⟩)] w (afIs (fun g=>sqrtF s a=g) w):=by
 have hB:Below w.heap.size w w:=Below.refl _ _;have HPa:=Lib.hid hpa;have FN:=fnum;have MR:=fun W (h1:TAt 55 W pa a.t) (H:Env W)=>arange oa h.r (Nat.le_trans oa.few (by decide)) pa ca W h1 H
 have MI:=fun W=>amustI (rangeI a) W
 have MI2:=fun W=>amustI s W
 have MQ:=fun W (H:Env W)=>esqrt_is h.root h.da h.j0 h.ok h.p30 h.jp h.pos W H
 have MH:=fun W (H:Env W)=>nsign h.ds W H
 have gh:¬ cmpQ s.hi 0=0:=fun e=>h.nz (cmpQ_eq.1 e)
 have W1:=fun W (H:Env W)=>awhole (n:=1) (by decide) whole1 W H
 have W4_:=fun W (H:Env W)=>awhole (n:=4) (by decide) whole4 W H
 have K1:=fun W (H:Env W)=>nadd h.sm W H
 have K2:=fun W (H:Env W)=>ndiv h.d1 W H
 have K3:=fun W (H:Env W)=>nmul h.m W H
 have K4:=fun W (H:Env W)=>ndiv h.d2 W H
 have K5:=fun W (H:Env W)=>ndiv h.d3 W H
 have KL:=fun W (h1:TAt 55 W pa a.t) (H:Env W)=>FIs.say (aline h.ln oa h.r.rad.dig pa ca W h1 H)
 unfold sqrtF afIs;unfold IvOk at MR MQ;unfold IvIs at MI MI2;unfold CmpOk at MH;unfold FV I at *;unfold QIs at W1 W4_ K1 K2 K3 K4 K5;generalize cmpQ s.hi 0=gg at *;have gbe:(gg == 0)=false:=beq_eq_false_iff_ne.2 gh;generalize (rangeI a).lo=il at *;generalize (rangeI a).hi=ih at *;generalize s.lo=pl at *;generalize s.hi=ph at *;generalize lineF (1 / (pl+ph)) (pl * ph / (pl+ph)) ((pl+ph) / 4) a=G at *;generalize 1 / (pl+ph)=r1 at *;generalize pl * ph / (pl+ph)=r2 at *;generalize (pl+ph) / 4=r4 at *;generalize pl * ph=pm at *;generalize pl+ph=psm at *;unfold Q at *;generalize (4:Rat)=four at *;generalize (1:Rat)=one at *;clear hpa h oa;have sa:=RF5 ra;have sn:=RF1 rn;go_enter Tryz.func84, Tryz.ntmps84;go_wp2_with fail;have da_o:ba<w.heap.size:=by omega
 have dn_o:bn<w.heap.size:=by omega
 have d0_o:w.heap.size≤w.heap.size:=by have:=hB.size;omega
 have sB:=hB.size;refine wp_cut (kp2 hB ra rn fun X=>Row X w.heap.size oF0) ⟨BW,RW8,RW8,RW8⟩ ?_;unfold kp2;clear ra sa rn sn hB sB;rintro V1 ⟨hB,ra,rn,ro⟩;have sa:=RF5 ra;have sn:=RF1 rn;have so:=RFz5 ro;have da_r:=ra.1;have dn_r:=rn.1;have do_r:=ro.1;have d0_r:=hB.size;refine wp_region_items 11 [.val (.agg #[.string (S a.c.num),.string (S (a.c.den:Int)),.slice pa a.t.length ca,.string (S a.r.num),.string (S (a.r.den:Int))]),.val (.tuple #[.agg #[.string (S il.num),.string (S (il.den:Int)),.string (S ih.num),.string (S (ih.den:Int))],.int .i64 0]),.val (.agg #[.string (S il.num),.string (S (il.den:Int)),.string (S ih.num),.string (S (ih.den:Int))]),.val (.int .i64 0),.val (.agg #[.string (S il.num),.string (S (il.den:Int)),.string (S ih.num),.string (S (ih.den:Int))]),.val (.int .i64 (p:Int)),.val (.tuple #[.agg #[.string (S pl.num),.string (S (pl.den:Int)),.string (S ph.num),.string (S (ph.den:Int))],.int .i64 0]),.val (.agg #[.string (S pl.num),.string (S (pl.den:Int)),.string (S ph.num),.string (S (ph.den:Int))]),.val (.int .i64 0),.val (.agg #[.string (S pl.num),.string (S (pl.den:Int)),.string (S ph.num),.string (S (ph.den:Int))]),.say (fresh _ oI0)] (by kernel_rfl) (by kernel_rfl) ⟨fresh_mono _ _,trivial⟩ (allItems.cons (qi1 fun X h=>RF5 (Row.below ra h)) (allItems.cons (qi2 fun X h=>MR X (UAt.below HPa.out (hB.trans (h.mono hB.size))) (he.below (hB.trans (h.mono hB.size)))) (allItems.cons qi0 (allItems.cons qi0 (allItems.cons (qi2 fun X h=>MI X) (allItems.cons (qi1 fun X h=>RF1 (Row.below rn h)) (allItems.cons (qi2 fun X h=>MQ X (he.below (hB.trans (h.mono hB.size)))) (allItems.cons qi0 (allItems.cons qi0 (allItems.cons (qi2 fun X h=>MI2 X) (allItems.cons qia trivial))))))))))) ?_
 rintro W h1;have stp:=St3 hB h1 ra rn ro;clear hB h1 ra sa rn sn ro so;obtain ⟨hB,ra,rn,ro⟩:=stp;have sa:=RF5 ra;have sn:=RF1 rn;have so:=RFz5 ro;simp only [setItems,List.setIfInBounds_toArray,List.set_cons_succ,List.set_cons_zero,List.take_succ_cons,List.take_zero,List.drop_succ_cons,List.drop_zero];rintro _ ⟨pr,rfl,hr,rr⟩;replace da_r:=Nat.lt_of_lt_of_le da_r hr;replace dn_r:=Nat.lt_of_lt_of_le dn_r hr;replace do_r:=Nat.lt_of_lt_of_le do_r hr;replace d0_r:=Nat.le_trans d0_r hr;have sr:=RFz4 rr;go_upto_region 2 with fail;have sB:=hB.size;refine wp_cut (kp2 hB ra ro fun X=>Row X pr (oI pl ph)) ⟨BW,RW8,RW8,RW8⟩ ?_;unfold kp2;clear ra sa rn sn ro so rr sr hB sB;rintro V2 ⟨hB,ra,ro,rr⟩;have sa:=RF5 ra;have so:=RFz5 ro;have sr:=RFz4 rr;have l_a:=ra.1;have l_o:=ro.1;have l_r:=rr.1;have l_W:=hB.size;refine Code.wp_mono (Q:=fun ex ac wx=>ex = .normal∧∃ (vx vy:Nat) (u7 u8 u9 u10 u11 u12 u13 u14 u15 u16 u17 u18 u19 u20 u21 u22:Value),ac={ tmps:=#[.pointer (some ⟨ba,0,none⟩),.pointer (some ⟨bn,0,none⟩),.pointer (some ⟨w.heap.size,0,none⟩),.pointer (some ⟨pr,0,none⟩),.pointer (some ⟨vx,0,none⟩),.pointer (some ⟨vy,0,none⟩),undef,u7,u8,u9,u10,u11,u12,u13,u14,u15,u16,u17,u18,u19,u20,u21,u22,undef,undef,undef,undef,undef,undef,undef,undef,undef,undef,undef,undef,undef,undef,undef,undef,undef,undef,undef,undef,undef,undef,undef],defers:=[] }∧Below w.heap.size w wx∧Row wx ba (oF a.c a.r pa a.t.length ca)∧Row wx w.heap.size oF0∧Row wx pr (oI pl ph)∧Row wx vx (oN pl)∧V2.heap.size≤vx∧Row wx vy (oN ph)∧V2.heap.size≤vy∧vx≠vy) ?rest ?first
 case first =>
  have sB:=hB.size;have KK:∀ X,Row X pr (oI pl ph)→(X.cell? ⟨pr,0,none⟩=some (.string (S pl.num))∧X.cell? ⟨pr,1,none⟩=some (.string (S (pl.den:Int)))∧X.cell? ⟨pr,2,none⟩=some (.string (S ph.num))∧X.cell? ⟨pr,3,none⟩=some (.string (S (ph.den:Int)))):=fun X hr=>⟨Row.cell_at hr 0 rfl,Row.cell_at hr 1 rfl,Row.cell_at hr 2 rfl,Row.cell_at hr 3 rfl⟩
  clear sa so sr;go_region_held3 (fun X=>X.cell? ⟨pr,0,none⟩=some (.string (S pl.num))∧X.cell? ⟨pr,1,none⟩=some (.string (S (pl.den:Int)))∧X.cell? ⟨pr,2,none⟩=some (.string (S ph.num))∧X.cell? ⟨pr,3,none⟩=some (.string (S (ph.den:Int)))) (first | exact KK _ RW8) (first
      | fail)
  all_goals (refine ⟨rfl,_,_,_,_,_,_,_,_,_,_,_,_,_,_,_,_,_,_,rfl,?_,?_,?_,?_,?_,?_,?_,?_,?_⟩)
  all_goals first | omega | ((repeat (first | (with_reducible assumption) | (with_reducible exact Below.refl _ _) | (with_reducible refine Below.drew ?_) | (with_reducible refine below_drewN ?_ _) | (with_reducible refine Below.alloc ?_ (by first | omega | (simp;done) | (simp;omega)) _) | (with_reducible refine Below.setCell ?_ (by first | omega | (simp;done) | (simp;omega)) _)));done) | ((repeat (first | (with_reducible assumption) | (with_reducible exact row_new' (by first | omega | (simp;done) | (simp;omega))) | (with_reducible refine Row.drew ?_) | (with_reducible refine Row.drewN ?_ _) | (with_reducible refine Row.alloc ?_ _) | (with_reducible apply Row.set5) | (with_reducible apply Row.set2) | (with_reducible refine Row.set_other ?_ _ (by first | omega | (simp;done) | (simp;omega)))));done) | (simp;done) | (simp;omega)
 case rest =>
  clear hB ra ro rr sa so sr;rintro ex ac wx ⟨rfl,vx,vy,u7,u8,u9,u10,u11,u12,u13,u14,u15,u16,u17,u18,u19,u20,u21,u22,rfl,hB,ra,ro,rr,rx,hvx,ry,hvy,nx_y⟩;have da_x:ba<vx:=by omega
  have da_y:ba<vy:=by omega
  have do_x:w.heap.size<vx:=by omega
  have do_y:w.heap.size<vy:=by omega
  have dr_x:pr<vx:=by omega
  have dr_y:pr<vy:=by omega
  have d0_x:w.heap.size≤vx:=by omega
  have d0_y:w.heap.size≤vy:=by omega
  have sa:=RF5 ra;have so:=RFz5 ro;have sr:=RFz4 rr;have sx:=RF2 rx;have sy:=RF2 ry;go_wp2_with fail;clear rr sr;refine (MH _ (he.below hB)).mono ?_;rintro e W4 ⟨rfl,h1⟩;have stp:=St4 hB h1 ra ro rx ry;clear hB h1 ra sa ro so rx sx ry sy;obtain ⟨hB,ra,ro,rx,ry⟩:=stp;have sa:=RF5 ra;have so:=RFz5 ro;have sx:=RF2 rx;have sy:=RF2 ry;go_wp2_with fail;refine (K1 _ (he.below hB)).mono ?_;rintro e W5 ⟨rfl,h1⟩;have stp:=St4 hB h1 ra ro rx ry;clear hB h1 ra sa ro so rx sx ry sy;obtain ⟨hB,ra,ro,rx,ry⟩:=stp;have sa:=RF5 ra;have so:=RFz5 ro;have sx:=RF2 rx;have sy:=RF2 ry;go_wp2_with fail;have da_k:ba<W5.heap.size:=by omega
  have do_k:w.heap.size<W5.heap.size:=by omega
  have dx_k:vx<W5.heap.size:=by omega
  have dy_k:vy<W5.heap.size:=by omega
  have d0_k:w.heap.size≤W5.heap.size:=by have:=hB.size;omega
  have sB:=hB.size;refine wp_cut (kp2 hB ra ro fun X=>Row X vx (oN pl)∧Row X vy (oN ph)∧Row X W5.heap.size (oN psm)) ⟨BW,RW8,RW8,RW8,RW8,RW8⟩ ?_;unfold kp2;clear ra sa ro so rx sx ry sy hB sB;rintro V6 ⟨hB,ra,ro,rx,ry,rk⟩;have sa:=RF5 ra;have so:=RFz5 ro;have sx:=RF2 rx;have sy:=RF2 ry;have sk:=RFz2 rk;refine wp_region_items 14 [.val (.agg #[.string (S one.num),.string (S (one.den:Int))]),.val (.agg #[.string (S psm.num),.string (S (psm.den:Int))]),.val (.agg #[.string (S r1.num),.string (S (r1.den:Int))]),.val (.agg #[.string (S pl.num),.string (S (pl.den:Int))]),.val (.agg #[.string (S ph.num),.string (S (ph.den:Int))]),.val (.agg #[.string (S pm.num),.string (S (pm.den:Int))]),.val (.agg #[.string (S psm.num),.string (S (psm.den:Int))]),.val (.agg #[.string (S r2.num),.string (S (r2.den:Int))]),.val (.agg #[.string (S psm.num),.string (S (psm.den:Int))]),.val (.agg #[.string (S four.num),.string (S (four.den:Int))]),.val (.agg #[.string (S r4.num),.string (S (r4.den:Int))]),.val (.agg #[.string (S r1.num),.string (S (r1.den:Int)),.string (S r2.num),.string (S (r2.den:Int)),.string (S r4.num),.string (S (r4.den:Int))]),.val (.agg #[.string (S a.c.num),.string (S (a.c.den:Int)),.slice pa a.t.length ca,.string (S a.r.num),.string (S (a.r.den:Int))]),.say (SayF G)] (by kernel_rfl) (by kernel_rfl) ⟨SayF.mono _,trivial⟩ (allItems.cons (qi2 fun X h=>W1 X (he.below (hB.trans (h.mono hB.size)))) (allItems.cons (qi1 fun X h=>RFz2 (Row.below rk h)) (allItems.cons (qi2 fun X h=>K2 X (he.below (hB.trans (h.mono hB.size)))) (allItems.cons (qi1 fun X h=>RF2 (Row.below rx h)) (allItems.cons (qi1 fun X h=>RF2 (Row.below ry h)) (allItems.cons (qi2 fun X h=>K3 X (he.below (hB.trans (h.mono hB.size)))) (allItems.cons (qi1 fun X h=>RFz2 (Row.below rk h)) (allItems.cons (qi2 fun X h=>K4 X (he.below (hB.trans (h.mono hB.size)))) (allItems.cons (qi1 fun X h=>RFz2 (Row.below rk h)) (allItems.cons (qi2 fun X h=>W4_ X (he.below (hB.trans (h.mono hB.size)))) (allItems.cons (qi2 fun X h=>K5 X (he.below (hB.trans (h.mono hB.size)))) (allItems.cons qi0 (allItems.cons (qi1 fun X h=>RF5 (Row.below ra h)) (allItems.cons (qi3 fun X h=>KL X (UAt.below HPa.out (hB.trans (h.mono hB.size))) (he.below (hB.trans (h.mono hB.size)))) trivial)))))))))))))) ?_
  rintro W h1;have stp:=St5 hB h1 ra ro rx ry rk;clear hB h1 ra sa ro so rx sx ry sy rk sk;obtain ⟨hB,ra,ro,rx,ry,rk⟩:=stp;have sa:=RF5 ra;have so:=RFz5 ro;have sx:=RF2 rx;have sy:=RF2 ry;have sk:=RFz2 rk;simp only [setItems,List.setIfInBounds_toArray,List.set_cons_succ,List.set_cons_zero,List.take_succ_cons,List.take_zero,List.drop_succ_cons,List.drop_zero];rintro _ ⟨pg,cg,rfl,hT⟩;go_wp2_with fail;have sB:=hB.size;refine post_cut (fun X=>Below w.heap.size w X∧Row X w.heap.size (oF G.c G.r pg G.t.length cg)∧TAt 55 X pg G.t) ⟨BW,RW8,TW⟩ ?_;clear ra sa ro so rx sx ry sy rk sk hB sB hT;rintro V7 ⟨hB,ro,hT⟩;have so:=RFz5 ro;refine bodyPost_ret (v := .agg #[.string (S G.c.num),.string (S (G.c.den:Int)),.slice pg G.t.length cg,.string (S G.r.num),.string (S (G.r.den:Int))]) ?res rfl ⟨G,pg,cg,rfl,hT,rfl,hB⟩
  case res=>simp [results,Tryz.results84, go_sem,so]
theorem asqrt {j p:Nat} {s:Iv} {a:Frm} (h:SqrtF j p s a) (oa:a.Ok) (pa:Option Addr) (ca:Nat) (w:World) (hpa:TAt 55 w pa a.t) (he:Env w):Calls Tryz.prog 26 #[FV a pa ca,.int .i64 (p:Int)] w (FRes (sqrtF s a) w):=by
 have hB:Below w.heap.size w w:=Below.refl _ _;have HPa:=Lib.hid hpa;have da:=h.r.rad.dig;have CF:=fun s W (r:Row W s (oF a.c a.r pa a.t.length ca)) (h1:TAt 55 W pa a.t) (H:Env W)=>fcontains1 115 (enters_of Tryz.func115 (by kernel_rfl) rfl) s a pa ca W r (fun X hX=>afbad oa da pa ca X (UAt.below h1 hX) (H.below hX))
 have CR:=fun ba bn W (ra:Row W ba (oF a.c a.r pa a.t.length ca)) (rn:Row W bn (.cells #[.int .i64 (p:Int)] 3)) (h1:TAt 55 W pa a.t) (H:Env W)=>asqrt1 h oa pa ca ba bn W ra rn h1 H
 generalize sqrtF s a=G at *;unfold FRes;unfold FV;clear hpa h oa da;go_enter Tryz.func26, Tryz.ntmps26;go_wp2_with fail;have d0_o:w.heap.size≤w.heap.size+1+1:=by have:=hB.size;omega
 have sB:=hB.size;refine world_cut (fun X=>Below w.heap.size w X∧Row X w.heap.size (oF a.c a.r pa a.t.length ca)∧Row X (w.heap.size+1) (.cells #[.int .i64 (p:Int)] 3)∧Row X (w.heap.size+1+1) oF0∧Row X (w.heap.size+1+1+1) (oF a.c a.r pa a.t.length ca)) ⟨BW,RW8,RW8,RW8,RW8⟩ ?_;clear hB sB;rintro V1 ⟨hB,ra,rn,ro,rb3⟩;have sa:=RF5 ra;have sn:=RF1 rn;have so:=RFz5 ro;have sb3:=RF5 rb3;refine (afcompute_ok 84 _ _ _ (fun g=>G=g) _ (enters_of Tryz.func84 (by kernel_rfl) rfl) (fun X h=>CF _ _ (Row.below rb3 h) (UAt.below HPa.out (hB.trans (h.mono hB.size))) (he.below (hB.trans (h.mono hB.size)))) (fun X h=>CR _ _ _ (Row.below ra h) (Row.below rn h) (UAt.below HPa.out (hB.trans (h.mono hB.size))) (he.below (hB.trans (h.mono hB.size))))).mono ?_;rintro e W2 ⟨_,pg,cg,rfl,hT,rfl,h1⟩;have stp:=St4 hB h1 ra rn ro rb3;clear hB h1 ra sa rn sn ro so rb3 sb3;obtain ⟨hB,ra,rn,ro,rb3⟩:=stp;have sa:=RF5 ra;have sn:=RF1 rn;have so:=RFz5 ro;have sb3:=RF5 rb3;unfold FV;go_wp2_with fail;have sB:=hB.size;refine post_cut (fun X=>Below w.heap.size w X∧Row X (w.heap.size+1+1) (oF G.c G.r pg G.t.length cg)∧TAt 55 X pg G.t) ⟨BW,RW8,TW⟩ ?_;clear ra sa rn sn ro so rb3 sb3 hB sB hT;rintro V3 ⟨hB,ro,hT⟩;have so:=RFz5 ro;refine bodyPost_ret (v := .tuple #[.agg #[.string (S G.c.num),.string (S (G.c.den:Int)),.slice pg G.t.length cg,.string (S G.r.num),.string (S (G.r.den:Int))],.int .i64 0]) ?res rfl ⟨pg,cg,hT,rfl,hB⟩
 case res=>simp [results,Tryz.results26, go_sem,so]
end Go.Proofs.YtdikaoahgleffaaGreatDoor
namespace Go.Proofs.YtdikaoahgleffaaGreatDoor
open Go Go.Lib
theorem qd {q:Rat} (h:q.num.natAbs<10 ^ 9∧((q.den:Int)).natAbs<10 ^ 9):QDig 9 q:=h
def eA:Frm:=⟨10,[⟨1,1⟩,⟨2,1 / 2⟩],0⟩
def eB:Frm:=⟨4,[⟨1,2⟩],0⟩
def eV:List Trm:=[⟨1,1⟩]
def eS:List Trm:=[⟨1,1 / 3⟩,⟨2,1 / 3⟩]
theorem eA_src:SrcOk eA.t:=⟨fun p hp=>by simp only [eA,List.mem_cons,List.not_mem_nil,or_false] at hp;rcases hp with rfl | rfl <;> decide,by unfold eA;simp⟩
theorem eB_src:SrcOk eB.t:=⟨fun p hp=>by simp only [eB,List.mem_cons,List.not_mem_nil,or_false] at hp;subst hp;decide,by unfold eB;simp⟩
theorem eA_ok:eA.Ok:=⟨by decide,eA_src,fun p hp=>by simp only [eA,List.mem_cons,List.not_mem_nil,or_false] at hp;rcases hp with rfl | rfl <;> decide +kernel,by decide +kernel⟩
theorem eB_ok:eB.Ok:=⟨by decide,eB_src,fun p hp=>by simp only [eB,List.mem_cons,List.not_mem_nil,or_false] at hp;subst hp;decide +kernel,by decide +kernel⟩
theorem eA_dig:FDig 9 eA:=⟨qd (by decide +kernel),fun p hp=>by simp only [eA,List.mem_cons,List.not_mem_nil,or_false] at hp;rcases hp with rfl | rfl <;> exact qd (by decide +kernel),qd (by decide +kernel)⟩
theorem eB_dig:FDig 9 eB:=⟨qd (by decide +kernel),fun p hp=>by simp only [eB,List.mem_cons,List.not_mem_nil,or_false] at hp;subst hp;exact qd (by decide +kernel),qd (by decide +kernel)⟩
theorem eC_dig (q:Rat) (h:QDig 9 q):FDig 9 (constF q):=⟨h,by simp [constF],by show QDig 9 0;exact qd (by decide +kernel)⟩
theorem r0 (l:List Trm):radTo l 0=0:=rfl
theorem r1 (l:List Trm):radTo l 1=0+absQ (trD l 0).c:=rfl
theorem r2 (l:List Trm):radTo l 2=0+absQ (trD l 0).c+absQ (trD l 1).c:=rfl
theorem eA_rad:rad eA=3 / 2:=by decide +kernel
theorem eB_rad:rad eB=2:=by decide +kernel
theorem eA_radF:RadF eA:=⟨eA_dig.mono (by decide),fun k hk=>by
 rcases (show k=0∨k=1 by have:k<2:=hk;omega) with rfl | rfl
 ·exact AF.of (j:=9) (k:=9) (qd (by decide +kernel)) (qd (by decide +kernel)) (by decide)
 ·exact AF.of (j:=9) (k:=9) (qd (by decide +kernel)) (qd (by decide +kernel)) (by decide),AF.of (j:=9) (k:=9) (qd (by decide +kernel)) (qd (by decide +kernel)) (by decide)⟩
theorem eB_radF:RadF eB:=⟨eB_dig.mono (by decide),fun k hk=>by
 obtain rfl:k=0:=by have:k<1:=hk;omega
 exact AF.of (j:=9) (k:=9) (qd (by decide +kernel)) (qd (by decide +kernel)) (by decide),AF.of (j:=9) (k:=9) (qd (by decide +kernel)) (qd (by decide +kernel)) (by decide)⟩
theorem eA_rangeF:RangeF eA:=⟨eA_radF,SF.of (j:=9) (k:=9) (qd (by decide +kernel)) (qd (by decide +kernel)) (by decide),AF.of (j:=9) (k:=9) (qd (by decide +kernel)) (qd (by decide +kernel)) (by decide)⟩
theorem eB_rangeF:RangeF eB:=⟨eB_radF,SF.of (j:=9) (k:=9) (qd (by decide +kernel)) (qd (by decide +kernel)) (by decide),AF.of (j:=9) (k:=9) (qd (by decide +kernel)) (qd (by decide +kernel)) (by decide)⟩
theorem eA_range:rangeI eA=⟨17 / 2,23 / 2⟩:=by unfold rangeI;rw [eA_rad];congr 1 <;> decide +kernel
theorem eB_range:rangeI eB=⟨2,6⟩:=by unfold rangeI;rw [eB_rad];congr 1 <;> decide +kernel
theorem eV_ok:ValsOk eV:=⟨by decide,⟨fun p hp=>by simp only [eV,List.mem_cons,List.not_mem_nil,or_false] at hp;subst hp;decide,by unfold eV;simp⟩,
 fun p hp=>by simp only [eV,List.mem_cons,List.not_mem_nil,or_false] at hp;subst hp;decide +kernel,fun p hp=>by simp only [eV,List.mem_cons,List.not_mem_nil,or_false] at hp;subst hp;exact (qd (by decide +kernel)).mono (by decide)⟩
theorem eV_look1:look eV 1=some 1:=rfl
theorem eV_look2:look eV 2=none:=rfl
theorem eA_others:others eV eA.t=[⟨2,1 / 2⟩]:=rfl
theorem eA_at:atI eA eV=⟨21 / 2,23 / 2⟩:=by
 unfold atI;rw [eA_others,show midTo eV eA.c eA.t eA.t.length=11 by decide +kernel,show rad ⟨0,[⟨2,1 / 2⟩],eA.r⟩=1 / 2 by decide +kernel];congr 1 <;> decide +kernel
theorem eA_atF:AtF eA eV:=by
 refine ⟨fun k hk v hv => ?_,fun k hk v hv => ?_,?_,?_,?_⟩
 ·rcases (show k=0∨k=1 by have:k<2:=hk;omega) with rfl | rfl
  ·obtain rfl:v=1:=(Option.some.inj (hv.symm.trans eV_look1))
   exact MF.of (j:=9) (k:=9) (qd (by decide +kernel)) (qd (by decide +kernel)) (by decide)
  ·cases (hv.symm.trans eV_look2)
 ·rcases (show k=0∨k=1 by have:k<2:=hk;omega) with rfl | rfl
  ·obtain rfl:v=1:=(Option.some.inj (hv.symm.trans eV_look1))
   exact AF.of (j:=9) (k:=9) (qd (by decide +kernel)) (qd (by decide +kernel)) (by decide)
  ·cases (hv.symm.trans eV_look2)
 ·rw [eA_others];exact ⟨⟨(qd (by decide +kernel):QDig 9 0).mono (by decide),fun p hp=>by simp only [List.mem_cons,List.not_mem_nil,or_false] at hp;subst hp;exact (qd (by decide +kernel)).mono (by decide),(qd (by decide +kernel):QDig 9 eA.r).mono (by decide)⟩,fun k hk=>by
   obtain rfl:k=0:=by have:k<1:=hk;omega
   exact AF.of (j:=9) (k:=9) (qd (by decide +kernel)) (qd (by decide +kernel)) (by decide),AF.of (j:=9) (k:=9) (qd (by decide +kernel)) (qd (by decide +kernel)) (by decide)⟩
 ·rw [eA_others];exact SF.of (j:=9) (k:=9) (qd (by decide +kernel)) (qd (by decide +kernel)) (by decide)
 ·rw [eA_others];exact AF.of (j:=9) (k:=9) (qd (by decide +kernel)) (qd (by decide +kernel)) (by decide)
theorem comb_len {p q:Rat} {a b:Frm} (ha:a.Ok) (hb:b.Ok) (h:a.t.length+b.t.length≤64):(lin p q a.t b.t).length≤64:=Nat.le_trans (lin_ok ha.src hb.src).len h
theorem eAB_combF:CombF 1 (-1) eA eB:=CombF.of (j:=9) (k:=9) (qd (by decide +kernel)) (qd (by decide +kernel)) eA_dig eB_dig (by decide) (comb_len eA_ok eB_ok (by decide))
theorem eAA_combF:CombF 1 (-1) eA eA:=CombF.of (j:=9) (k:=9) (qd (by decide +kernel)) (qd (by decide +kernel)) eA_dig eA_dig (by decide) (comb_len eA_ok eA_ok (by decide))
theorem eAA_comb:combF 1 (-1) eA eA=constF 0:=by rw [sub_self_form eA_ok];unfold constF;congr 1;decide +kernel
def eD:Frm:=⟨6,[⟨1, -1⟩,⟨2,1 / 2⟩],0⟩
def eM:Frm:=⟨40,[⟨1,24⟩,⟨2,2⟩],3⟩
def eI:Frm:=⟨1 / 4,[⟨1, -1 / 6⟩],1 / 12⟩
theorem trm_ext {s:Nat} {a b:Rat} (h:a=b):(⟨s,a⟩:Trm)=⟨s,b⟩:=h ▸ rfl
theorem eAB_comb:combF 1 (-1) eA eB=eD:=by
 have hl:lin 1 (-1) eA.t eB.t=eD.t:=by
  show lin 1 (-1) [⟨1,1⟩,⟨2,1 / 2⟩] [⟨1,2⟩]=[⟨1, -1⟩,⟨2,1 / 2⟩];rw [lin_both,if_neg (by decide),if_neg (by decide),lin_left,lin_nil];unfold ahead;rw [if_neg (by decide +kernel),if_neg (by decide +kernel),trm_ext (show (1:Rat) * 1 + -1 * 2 = -1 by decide +kernel),trm_ext (show (1:Rat) * (1 / 2)=1 / 2 by decide +kernel)]
 unfold combF;rw [hl];unfold eD;congr 1 <;> decide +kernel
theorem eAB_mul:mulF eA eB=eM:=by
 have hl:lin eB.c eA.c eA.t eB.t=eM.t:=by
  show lin 4 10 [⟨1,1⟩,⟨2,1 / 2⟩] [⟨1,2⟩]=[⟨1,24⟩,⟨2,2⟩];rw [lin_both,if_neg (by decide),if_neg (by decide),lin_left,lin_nil];unfold ahead;rw [if_neg (by decide +kernel),if_neg (by decide +kernel),trm_ext (show (4:Rat) * 1+10 * 2=24 by decide +kernel),trm_ext (show (4:Rat) * (1 / 2)=2 by decide +kernel)]
 unfold mulF;rw [hl,eA_rad,eB_rad];unfold eM;congr 1 <;> decide +kernel
theorem eAB_mulF:MulF eA eB where
 lin:=LinF.of (j:=9) (k:=9) eB_dig.c eA_dig.c eA_dig eB_dig (by decide) (comb_len eA_ok eB_ok (by decide))
 c:=MF.of eA_dig.c eB_dig.c (by decide)
 ra:=eA_radF
 rb:=eB_radF
 rr:=by rw [eA_rad,eB_rad];exact MF.of (j:=9) (k:=9) (qd (by decide +kernel)) (qd (by decide +kernel)) (by decide)
 rs:=by rw [eA_rad,eB_rad];exact AF.of (j:=9) (k:=9) (qd (by decide +kernel)) (qd (by decide +kernel)) (by decide)
/-! The inverse. -/
theorem eI_scale:combF (-1 / 12) 0 eB (constF 0)=⟨-1 / 3,[⟨1, -1 / 6⟩],0⟩:=by
 have hl:lin (-1 / 12) 0 eB.t (constF 0).t=[⟨1, -1 / 6⟩]:=by
  show lin (-1 / 12) 0 [⟨1,2⟩] []=[⟨1, -1 / 6⟩];rw [lin_left,lin_nil];unfold ahead;rw [if_neg (by decide +kernel),trm_ext (show (-1 / 12:Rat) * 2 = -1 / 6 by decide +kernel)]
 unfold combF;rw [hl];congr 1 <;> decide +kernel
theorem eI_combF:CombF (-1 / 12) 0 eB (constF 0):=CombF.of (j:=9) (k:=9) (qd (by decide +kernel)) (qd (by decide +kernel)) eB_dig (eC_dig 0 (qd (by decide +kernel))) (by decide) (comb_len eB_ok (const_ok 0) (by decide))
theorem eI_line:LineF (-1 / 12) (1 / 2) (2 / 3) eB where
 sc:=eI_combF
 uv:=AF.of (j:=9) (k:=9) (qd (by decide +kernel)) (qd (by decide +kernel)) (by decide)
 d1:=DF.of (j:=9) (k:=9) (qd (by decide +kernel)) (qd (by decide +kernel)) (by decide) (by decide +kernel)
 c:=by rw [eI_scale];exact AF.of (j:=9) (k:=9) (qd (by decide +kernel)) (qd (by decide +kernel)) (by decide)
 vu:=SF.of (j:=9) (k:=9) (qd (by decide +kernel)) (qd (by decide +kernel)) (by decide)
 d2:=DF.of (j:=9) (k:=9) (qd (by decide +kernel)) (qd (by decide +kernel)) (by decide) (by decide +kernel)
 r:=by rw [eI_scale];exact AF.of (j:=9) (k:=9) (qd (by decide +kernel)) (qd (by decide +kernel)) (by decide)
theorem eI_s:(-1 / (2 * 6):Rat) = -1 / 12:=by decide +kernel
theorem eI_u:(4 / (2+6):Rat)=1 / 2:=by decide +kernel
theorem eI_v:(1 / 2+1 / 6:Rat)=2 / 3:=by decide +kernel
theorem eB_inv:invF eB=eI:=by
 unfold invF;rw [eB_range,eI_s,eI_u,eI_v];unfold lineF;rw [eI_scale];unfold eI;congr 1 <;> decide +kernel
theorem eB_invF:InvF eB where
 r:=eB_rangeF
 pos:=by rw [eB_range];decide +kernel
 le:=by rw [eB_range];decide +kernel
 dl:=by rw [eB_range];exact (qd (by decide +kernel)).mono (by decide)
 dh:=by rw [eB_range];exact (qd (by decide +kernel)).mono (by decide)
 lh:=by rw [eB_range];exact MF.of (j:=9) (k:=9) (qd (by decide +kernel)) (qd (by decide +kernel)) (by decide)
 s:=by rw [eB_range];exact DF.of (j:=9) (k:=9) (qd (by decide +kernel)) (qd (by decide +kernel)) (by decide) (by decide +kernel)
 sm:=by rw [eB_range];exact AF.of (j:=9) (k:=9) (qd (by decide +kernel)) (qd (by decide +kernel)) (by decide)
 u:=by rw [eB_range];exact DF.of (j:=9) (k:=9) (qd (by decide +kernel)) (qd (by decide +kernel)) (by decide) (by decide +kernel)
 v1:=by rw [eB_range];exact DF.of (j:=9) (k:=9) (qd (by decide +kernel)) (qd (by decide +kernel)) (by decide) (by decide +kernel)
 v2:=by rw [eB_range];exact DF.of (j:=9) (k:=9) (qd (by decide +kernel)) (qd (by decide +kernel)) (by decide) (by decide +kernel)
 v:=by rw [eB_range];exact AF.of (j:=9) (k:=9) (qd (by decide +kernel)) (qd (by decide +kernel)) (by decide)
 ln:=by rw [eB_range,eI_s,eI_u,eI_v];exact eI_line
/-! The covariance. -/
theorem eS_ok:SrcsOk eS:=⟨by decide,⟨fun p hp=>by simp only [eS,List.mem_cons,List.not_mem_nil,or_false] at hp;rcases hp with rfl | rfl <;> decide,by unfold eS;simp⟩,
 fun p hp=>by simp only [eS,List.mem_cons,List.not_mem_nil,or_false] at hp;rcases hp with rfl | rfl <;> decide +kernel,fun p hp=>by simp only [eS,List.mem_cons,List.not_mem_nil,or_false] at hp;rcases hp with rfl | rfl <;> exact (qd (by decide +kernel)).mono (by decide)⟩
theorem eS_knows:KnownBy eS (eA.t ++ eB.t):=fun t ht=>by
 simp only [eA,eB,List.cons_append,List.nil_append,List.mem_cons,List.not_mem_nil,or_false] at ht;rcases ht with rfl | rfl | rfl
 ·exact ⟨0,by decide,rfl⟩
 ·exact ⟨1,by decide,rfl⟩
 ·exact ⟨0,by decide,rfl⟩
theorem eS_cov:covTo eA.t eB.t eS eS.length=2 / 3:=by decide +kernel
theorem eS_covF:CovF eA.t eB.t eS:=by
 refine ⟨fun k hk => ?_,fun k hk => ?_,fun k hk => ?_⟩ <;> rcases (show k=0∨k=1 by have:k<2:=hk;omega) with rfl | rfl
 ·exact MF.of (j:=9) (k:=9) (qd (by decide +kernel)) (qd (by decide +kernel)) (by decide)
 ·exact MF.of (j:=9) (k:=9) (qd (by decide +kernel)) (qd (by decide +kernel)) (by decide)
 ·exact MF.of (j:=9) (k:=9) (qd (by decide +kernel)) (qd (by decide +kernel)) (by decide)
 ·exact MF.of (j:=9) (k:=9) (qd (by decide +kernel)) (qd (by decide +kernel)) (by decide)
 ·exact AF.of (j:=9) (k:=9) (qd (by decide +kernel)) (qd (by decide +kernel)) (by decide)
 ·exact AF.of (j:=9) (k:=9) (qd (by decide +kernel)) (qd (by decide +kernel)) (by decide)
/-! The root. -/
theorem c4_range:rangeI (constF 4)=⟨4,4⟩:=by unfold rangeI;congr 1 <;> decide +kernel
theorem c4_rangeF:RangeF (constF 4):=⟨⟨(eC_dig 4 (qd (by decide +kernel))).mono (by decide),fun k hk=>absurd hk (by simp [constF]),AF.of (j:=9) (k:=9) (qd (by decide +kernel)) (qd (by decide +kernel)) (by decide)⟩,SF.of (j:=9) (k:=9) (qd (by decide +kernel)) (qd (by decide +kernel)) (by decide),AF.of (j:=9) (k:=9) (qd (by decide +kernel)) (qd (by decide +kernel)) (by decide)⟩
theorem c4_root:SqrtI (rangeI (constF 4)) (TT 2) ⟨2,2⟩:=by
 rw [c4_range];refine ⟨⟨200,?_,by decide +kernel⟩,⟨200,?_,.inl ⟨?_,by decide +kernel⟩⟩⟩
 ·unfold IsRootI;decide +kernel
 ·unfold IsRootI;decide +kernel
 ·unfold ExactR;decide +kernel
theorem c4_scale:combF (1 / 4) 0 (constF 4) (constF 0)=constF 1:=by
 unfold combF;rw [show lin (1 / 4) 0 (constF 4).t (constF 0).t=[] from lin_nil _ _];unfold constF;congr 1 <;> decide +kernel
theorem c4_line:LineF (1 / 4) 1 1 (constF 4) where
 sc:=CombF.of (j:=9) (k:=9) (qd (by decide +kernel)) (qd (by decide +kernel)) (eC_dig 4 (qd (by decide +kernel))) (eC_dig 0 (qd (by decide +kernel))) (by decide) (comb_len (const_ok 4) (const_ok 0) (by decide))
 uv:=AF.of (j:=9) (k:=9) (qd (by decide +kernel)) (qd (by decide +kernel)) (by decide)
 d1:=DF.of (j:=9) (k:=9) (qd (by decide +kernel)) (qd (by decide +kernel)) (by decide) (by decide +kernel)
 c:=by rw [c4_scale];exact AF.of (j:=9) (k:=9) (qd (by decide +kernel)) (qd (by decide +kernel)) (by decide)
 vu:=SF.of (j:=9) (k:=9) (qd (by decide +kernel)) (qd (by decide +kernel)) (by decide)
 d2:=DF.of (j:=9) (k:=9) (qd (by decide +kernel)) (qd (by decide +kernel)) (by decide) (by decide +kernel)
 r:=by rw [c4_scale];exact AF.of (j:=9) (k:=9) (qd (by decide +kernel)) (qd (by decide +kernel)) (by decide)
theorem c4_e1:(1 / (2+2):Rat)=1 / 4:=by decide +kernel
theorem c4_e2:(2 * 2 / (2+2):Rat)=1:=by decide +kernel
theorem c4_e3:((2+2) / 4:Rat)=1:=by decide +kernel
theorem c4_sqrt:sqrtF ⟨2,2⟩ (constF 4)=constF 2:=by
 unfold sqrtF;rw [c4_e1,c4_e2,c4_e3];unfold lineF;rw [c4_scale];unfold constF;congr 1 <;> decide +kernel
theorem c4_sqrtF:SqrtF 9 2 ⟨2,2⟩ (constF 4) where
 r:=c4_rangeF
 j0:=by decide
 jp:=by decide
 p30:=by decide
 da:=by rw [c4_range];exact ⟨qd (by decide +kernel),qd (by decide +kernel)⟩
 ok:=by rw [c4_range];exact Rat.le_refl
 pos:=by rw [c4_range];decide +kernel
 root:=c4_root
 nz:=by decide +kernel
 ds:=(qd (by decide +kernel)).mono (by decide)
 sm:=AF.of (j:=9) (k:=9) (qd (by decide +kernel)) (qd (by decide +kernel)) (by decide)
 d1:=DF.of (j:=9) (k:=9) (qd (by decide +kernel)) (qd (by decide +kernel)) (by decide) (by decide +kernel)
 m:=MF.of (j:=9) (k:=9) (qd (by decide +kernel)) (qd (by decide +kernel)) (by decide)
 d2:=DF.of (j:=9) (k:=9) (qd (by decide +kernel)) (qd (by decide +kernel)) (by decide) (by decide +kernel)
 d3:=DF.of (j:=9) (k:=9) (qd (by decide +kernel)) (qd (by decide +kernel)) (by decide) (by decide +kernel)
 ln:=by show LineF (1 / (2+2)) (2 * 2 / (2+2)) ((2+2) / 4) (constF 4);rw [c4_e1,c4_e2,c4_e3];exact c4_line
end Go.Proofs.YtdikaoahgleffaaGreatDoor
namespace Go.Proofs.YtdikaoahgleffaaGreatDoor
open Go Go.RowKit Go.Lib Go.Shelf
attribute [local go_sem] normalQ
theorem tequal {l:List RT} (p q:Option Addr) (n c d:Nat) (hn:l.length=n) (hn1:n≤1000000) (w:World) (hp:UAt 55 w p l) (hq:UAt 55 w q l) :
  Calls Tryz.prog 86 #[.slice p n c,.slice q n d] w (BoolOk true w):=by
 have hB:Below w.heap.size w w:=Below.refl _ _;have HP:=Lib.hid hp;have HQ:=Lib.hid hq;have HN:=Lib.hid hn;have hnI:(n:Int)≤1000000:=by omega
 clear hp hq hn;go_enter Tryz.func86, Tryz.ntmps86;go_wp2_with fail;go_loopw [13] (fun v13 wr=>∃ i:Nat,v13 = .int .i64 (i:Int)∧i≤n∧Below w.heap.size w wr) (fun v13 _=>(n - RowKit.intOf v13).toNat)
 case atStart=>exact ⟨0,rfl,Nat.zero_le _,hB⟩
 case round =>
  clear hB;obtain ⟨i,rfl,him,hB⟩:=hrel;rcases Nat.lt_or_ge i n with hlt | hge
  ·have hlt':i<l.length:=by rw [HN.out];exact hlt
   obtain ⟨u,hu⟩:∃ u,u=uD l i:=⟨_,rfl⟩
   obtain ⟨g,cur,hpg,rg,g0,g1,g2⟩:=UAt.at (UAt.below HP.out hB) hlt';obtain ⟨k,cuk,hqk,rk,k0,k1,k2⟩:=UAt.at (UAt.below HQ.out hB) hlt';rw [← hu] at g0 g1 g2 k0 k1 k2;subst hpg hqk;clear hu;have hi:(i:Int)<(n:Int):=by omega
   have Fg:∀ X,Row X g (.cells cur 55)→(g<X.heap.size∧X.cell? ⟨g,i * 3,none⟩=some (.int .i64 u.s)∧X.cell? ⟨g,i * 3+1,none⟩=some (.string u.a)∧X.cell? ⟨g,i * 3+2,none⟩=some (.string u.b)):=fun X h=>⟨h.1,Row.cell_at h _ g0,Row.cell_at h _ g1,Row.cell_at h _ g2⟩
   have sg:=Fg _ rg;have Fk:∀ X,Row X k (.cells cuk 55)→(k<X.heap.size∧X.cell? ⟨k,i * 3,none⟩=some (.int .i64 u.s)∧X.cell? ⟨k,i * 3+1,none⟩=some (.string u.a)∧X.cell? ⟨k,i * 3+2,none⟩=some (.string u.b)):=fun X h=>⟨h.1,Row.cell_at h _ k0,Row.cell_at h _ k1,Row.cell_at h _ k2⟩
   have sk:=Fk _ rk;go_wp2_with fail;refine wp_region_vals [.slice (some ⟨g,0,none⟩) n c,.int .i64 (i:Int),.pointer (some ⟨g,i * 3,none⟩),.agg #[.int .i64 u.s,.string u.a,.string u.b],.slice (some ⟨k,0,none⟩) n d,.int .i64 (i:Int),.pointer (some ⟨k,i * 3,none⟩),.agg #[.int .i64 u.s,.string u.a,.string u.b],.bool false] (by kernel_rfl) (by kernel_rfl) rfl (allVals.cons qv0 (allVals.cons qv0 (allVals.cons (qvf hi) (allVals.cons (qv1 fun X h=>Fg X (Row.below rg h)) (allVals.cons qv0 (allVals.cons qv0 (allVals.cons (qvf hi) (allVals.cons (qv1 fun X h=>Fk X (Row.below rk h)) (allVals.cons (qvf hi) trivial))))))))) ?_;rintro W h1;have stp:=St2 hB h1 rg rk;clear hB h1 rg sg rk sk;obtain ⟨hB,rg,rk⟩:=stp;have sg:=Fg _ rg;have sk:=Fk _ rk;simp only [setVals,List.setIfInBounds_toArray,List.set_cons_succ,List.set_cons_zero];go_wp2;go_roundw
   case rel=>exact ⟨i+1,by go_num,by omega,BW⟩
   case measure=>simp [RowKit.intOf];omega
  ·obtain rfl:n=i:=by omega
   go_wp2;go_ret;exact ⟨rfl,hB⟩
theorem asame {f:Frm} (hn1:f.t.length≤1000000) (p q:Option Addr) (c d:Nat) (w:World) (hp:TAt 55 w p f.t) (hq:TAt 55 w q f.t) :
  Calls Tryz.prog 28 #[FV f p c,FV f q d] w (BoolOk true w):=by
 have hB:Below w.heap.size w w:=Below.refl _ _;have HP:=Lib.hid hp;have HQ:=Lib.hid hq;have ME:=fun W (h1:UAt 55 W p (raws f.t)) (h2:UAt 55 W q (raws f.t))=>tequal (l:=raws f.t) p q f.t.length c d (raws_length f.t) hn1 W h1 h2
 unfold BoolOk FV at *;clear hp hq;go_enter Tryz.func28, Tryz.ntmps28;go_wp2_with fail;have sB:=hB.size;refine world_cut (fun X=>Below w.heap.size w X) BW ?_;clear hB sB;rintro V1 hB;refine (ME _ (UAt.below HP.out hB) (UAt.below HQ.out hB)).mono ?_;rintro e W2 ⟨rfl,h1⟩;have stp:=St0 hB h1;clear hB h1;have hB:=stp;clear stp;go_wp2;go_ret;exact ⟨rfl,hB⟩
end Go.Proofs.YtdikaoahgleffaaGreatDoor
