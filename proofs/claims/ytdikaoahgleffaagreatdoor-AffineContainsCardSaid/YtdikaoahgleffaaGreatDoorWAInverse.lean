/-
 Package affine: Inverse, at forms that are greater than 0, where nothing is too large.
-/
import Derived.Test.YtdikaoahgleffaaGreatDoorWALine
set_option linter.unusedSimpArgs false
set_option linter.unusedVariables false
set_option maxRecDepth 100000
set_option maxHeartbeats 16000000
namespace Go.Proofs.YtdikaoahgleffaaGreatDoor
open Go Go.RowKit Go.Lib Go.Shelf
attribute [local go_sem] normalQ
def invF (a:Frm):Frm:=lineF (-1 / ((rangeI a).lo * (rangeI a).hi)) (4 / ((rangeI a).lo+(rangeI a).hi)) (1 / (rangeI a).lo+1 / (rangeI a).hi) a
structure InvF (a:Frm):Prop where
 r:RangeF a
 pos:0<(rangeI a).lo
 le:(rangeI a).lo≤(rangeI a).hi
 dl:QDig 200 (rangeI a).lo
 dh:QDig 200 (rangeI a).hi
 lh:MF (rangeI a).lo (rangeI a).hi
 s:DF (-1) ((rangeI a).lo * (rangeI a).hi)
 sm:AF (rangeI a).lo (rangeI a).hi
 u:DF 4 ((rangeI a).lo+(rangeI a).hi)
 v1:DF 1 (rangeI a).lo
 v2:DF 1 (rangeI a).hi
 v:AF (1 / (rangeI a).lo) (1 / (rangeI a).hi)
 ln:LineF (-1 / ((rangeI a).lo * (rangeI a).hi)) (4 / ((rangeI a).lo+(rangeI a).hi)) (1 / (rangeI a).lo+1 / (rangeI a).hi) a
theorem ainv1 {a:Frm} (h:InvF a) (oa:a.Ok) (pa:Option Addr) (ca:Nat) (ba:Nat) (w:World) (ra:Row w ba (oF a.c a.r pa a.t.length ca)) (hpa:TAt 55 w pa a.t) (he:Env w):Calls Tryz.prog 52 #[.pointer (some ⟨ba,0,none⟩)] w (afIs (fun g=>invF a=g) w):=by
 have hB:Below w.heap.size w w:=Below.refl _ _;have HPa:=Lib.hid hpa;have FN:=fnum;have MR:=fun W (h1:TAt 55 W pa a.t) (H:Env W)=>arange oa h.r (Nat.le_trans oa.few (by decide)) pa ca W h1 H
 have MI:=fun W=>amustI (rangeI a) W
 have MH:=fun W (H:Env W)=>nsign h.dh W H
 have ML:=fun W (H:Env W)=>nsign h.dl W H
 have gh:¬ cmpQ (rangeI a).hi 0<0:=fun e=>by have:=cmpQ_lt.1 e;have:=h.pos;have:=h.le;grind
 have gl:0<cmpQ (rangeI a).lo 0:=cmpQ_gt.2 h.pos;have W1:=fun W (H:Env W)=>awhole (n:=1) (by decide) whole1 W H
 have Wm:=fun W (H:Env W)=>awhole (n := -1) (by decide) wholeM W H
 have W4_:=fun W (H:Env W)=>awhole (n:=4) (by decide) whole4 W H
 have K1:=fun W (H:Env W)=>nmul h.lh W H
 have K2:=fun W (H:Env W)=>ndiv h.s W H
 have K3:=fun W (H:Env W)=>nadd h.sm W H
 have K4:=fun W (H:Env W)=>ndiv h.u W H
 have K5:=fun W (H:Env W)=>ndiv h.v1 W H
 have K6:=fun W (H:Env W)=>ndiv h.v2 W H
 have K7:=fun W (H:Env W)=>nadd h.v W H
 have KL:=fun W (h1:TAt 55 W pa a.t) (H:Env W)=>FIs.say (aline h.ln oa h.r.rad.dig pa ca W h1 H)
 unfold invF afIs;unfold IvOk at MR;unfold IvIs at MI;unfold CmpOk at MH ML;unfold FV I at *;unfold QIs at W1 Wm W4_ K1 K2 K3 K4 K5 K6 K7;generalize cmpQ (rangeI a).hi 0=gh1 at *;generalize cmpQ (rangeI a).lo 0=gl1 at *;generalize (rangeI a).lo=l at *;generalize (rangeI a).hi=hh at *;generalize lineF (-1 / (l * hh)) (4 / (l+hh)) (1 / l+1 / hh) a=G at *;generalize -1 / (l * hh)=slo at *;generalize 4 / (l+hh)=uu at *;generalize 1 / l+1 / hh=vv at *;generalize 1 / l=v1 at *;generalize 1 / hh=v2 at *;generalize l * hh=plh at *;generalize l+hh=psm at *;unfold Q at *;generalize (-1:Rat)=om at *;generalize (4:Rat)=four at *;generalize (1:Rat)=one at *;clear hpa h oa;have sa:=RF5 ra;go_enter Tryz.func52, Tryz.ntmps52;go_wp2_with fail;have da_o:ba<w.heap.size:=by omega
 have d0_o:w.heap.size≤w.heap.size:=by have:=hB.size;omega
 have sB:=hB.size;refine world_cut (kp1 hB ra fun X=>Row X w.heap.size oF0) ⟨BW,RW8,RW8⟩ ?_;unfold kp1;clear ra sa hB sB;rintro V1 ⟨hB,ra,ro⟩;have sa:=RF5 ra;have so:=RFz5 ro;refine (MR _ (UAt.below HPa.out hB) (he.below hB)).mono ?_;rintro e W2 ⟨rfl,h1⟩;have stp:=St2 hB h1 ra ro;clear hB h1 ra sa ro so;obtain ⟨hB,ra,ro⟩:=stp;have sa:=RF5 ra;have so:=RFz5 ro;go_wp2_with fail;refine (MI _).mono ?_;rintro e W3 ⟨rfl,h1⟩;have stp:=St2 hB h1 ra ro;clear hB h1 ra sa ro so;obtain ⟨hB,ra,ro⟩:=stp;have sa:=RF5 ra;have so:=RFz5 ro;go_upto_region 2 with fail;have da_r:ba<W3.heap.size:=by omega
 have do_r:w.heap.size<W3.heap.size:=by omega
 have d0_r:w.heap.size≤W3.heap.size:=by have:=hB.size;omega
 have sB:=hB.size;refine wp_cut (kp2 hB ra ro fun X=>Row X W3.heap.size (oI l hh)) ⟨BW,RW8,RW8,RW8⟩ ?_;unfold kp2;clear ra sa ro so hB sB;rintro V4 ⟨hB,ra,ro,rr⟩;have sa:=RF5 ra;have so:=RFz5 ro;have sr:=RFz4 rr;have l_a:=ra.1;have l_o:=ro.1;have l_r:=rr.1;have l_W:=hB.size;refine Code.wp_mono (Q:=fun ex ac wx=>ex = .normal∧∃ (vl vh:Nat) (u7 u8 u9 u10 u11 u12 u13 u14 u15 u16 u17:Value),ac={ tmps:=#[.pointer (some ⟨ba,0,none⟩),.pointer (some ⟨w.heap.size,0,none⟩),.pointer (some ⟨W3.heap.size,0,none⟩),.pointer (some ⟨vl,0,none⟩),.pointer (some ⟨vh,0,none⟩),undef,undef,u7,u8,u9,u10,u11,u12,u13,u14,u15,u16,u17,undef,undef,undef,undef,undef,undef,undef,undef,undef,undef,undef,undef,undef,undef,undef,undef,undef,undef,undef,undef,undef,undef,undef,undef,undef,undef,undef,undef,undef,undef,undef,undef,undef,undef,undef,undef,undef,undef,undef,undef,undef,undef,undef,undef,undef],defers:=[] }∧Below w.heap.size w wx∧Row wx ba (oF a.c a.r pa a.t.length ca)∧Row wx w.heap.size oF0∧Row wx W3.heap.size (oI l hh)∧Row wx vl (oN l)∧V4.heap.size≤vl∧Row wx vh (oN hh)∧V4.heap.size≤vh∧vl≠vh) ?rest ?first
 case first =>
  have sB:=hB.size;have KK:∀ X,Row X W3.heap.size (oI l hh)→(X.cell? ⟨W3.heap.size,0,none⟩=some (.string (S l.num))∧X.cell? ⟨W3.heap.size,1,none⟩=some (.string (S (l.den:Int)))∧X.cell? ⟨W3.heap.size,2,none⟩=some (.string (S hh.num))∧X.cell? ⟨W3.heap.size,3,none⟩=some (.string (S (hh.den:Int)))):=fun X hr=>⟨Row.cell_at hr 0 rfl,Row.cell_at hr 1 rfl,Row.cell_at hr 2 rfl,Row.cell_at hr 3 rfl⟩
  clear sa so sr;go_region_held3 (fun X=>X.cell? ⟨W3.heap.size,0,none⟩=some (.string (S l.num))∧X.cell? ⟨W3.heap.size,1,none⟩=some (.string (S (l.den:Int)))∧X.cell? ⟨W3.heap.size,2,none⟩=some (.string (S hh.num))∧X.cell? ⟨W3.heap.size,3,none⟩=some (.string (S (hh.den:Int)))) (first | exact KK _ RW8) (first
      | fail)
  all_goals (refine ⟨rfl,_,_,_,_,_,_,_,_,_,_,_,_,_,rfl,?_,?_,?_,?_,?_,?_,?_,?_,?_⟩)
  all_goals first | omega | ((repeat (first | (with_reducible assumption) | (with_reducible exact Below.refl _ _) | (with_reducible refine Below.drew ?_) | (with_reducible refine below_drewN ?_ _) | (with_reducible refine Below.alloc ?_ (by first | omega | (simp;done) | (simp;omega)) _) | (with_reducible refine Below.setCell ?_ (by first | omega | (simp;done) | (simp;omega)) _)));done) | ((repeat (first | (with_reducible assumption) | (with_reducible exact row_new' (by first | omega | (simp;done) | (simp;omega))) | (with_reducible refine Row.drew ?_) | (with_reducible refine Row.drewN ?_ _) | (with_reducible refine Row.alloc ?_ _) | (with_reducible apply Row.set5) | (with_reducible apply Row.set2) | (with_reducible refine Row.set_other ?_ _ (by first | omega | (simp;done) | (simp;omega)))));done) | (simp;done) | (simp;omega)
 case rest =>
  clear hB ra ro rr sa so sr;rintro ex ac wx ⟨rfl,vl,vh,u7,u8,u9,u10,u11,u12,u13,u14,u15,u16,u17,rfl,hB,ra,ro,rr,rl,hvl,rh,hvh,nl_h⟩;have da_l:ba<vl:=by omega
  have da_h:ba<vh:=by omega
  have do_l:w.heap.size<vl:=by omega
  have do_h:w.heap.size<vh:=by omega
  have dr_l:W3.heap.size<vl:=by omega
  have dr_h:W3.heap.size<vh:=by omega
  have d0_l:w.heap.size≤vl:=by omega
  have d0_h:w.heap.size≤vh:=by omega
  have sa:=RF5 ra;have so:=RFz5 ro;have sr:=RFz4 rr;have sl:=RF2 rl;have sh:=RF2 rh;go_wp2_with fail;clear rr sr;refine (MH _ (he.below hB)).mono ?_;rintro e W6 ⟨rfl,h1⟩;have stp:=St4 hB h1 ra ro rl rh;clear hB h1 ra sa ro so rl sl rh sh;obtain ⟨hB,ra,ro,rl,rh⟩:=stp;have sa:=RF5 ra;have so:=RFz5 ro;have sl:=RF2 rl;have sh:=RF2 rh;go_wp2_with fail;refine (ML _ (he.below hB)).mono ?_;rintro e W7 ⟨rfl,h1⟩;have stp:=St4 hB h1 ra ro rl rh;clear hB h1 ra sa ro so rl sl rh sh;obtain ⟨hB,ra,ro,rl,rh⟩:=stp;have sa:=RF5 ra;have so:=RFz5 ro;have sl:=RF2 rl;have sh:=RF2 rh;go_wp2_with fail;refine (acheck_true _).mono ?_;rintro e W8 ⟨rfl,h1⟩;have stp:=St4 hB h1 ra ro rl rh;clear hB h1 ra sa ro so rl sl rh sh;obtain ⟨hB,ra,ro,rl,rh⟩:=stp;have sa:=RF5 ra;have so:=RFz5 ro;have sl:=RF2 rl;have sh:=RF2 rh;go_wp2_with fail;refine (W1 _ (he.below hB)).mono ?_;rintro e W9 ⟨rfl,h1⟩;have stp:=St4 hB h1 ra ro rl rh;clear hB h1 ra sa ro so rl sl rh sh;obtain ⟨hB,ra,ro,rl,rh⟩:=stp;have sa:=RF5 ra;have so:=RFz5 ro;have sl:=RF2 rl;have sh:=RF2 rh;go_wp2_with fail;have da_k:ba<W9.heap.size:=by omega
  have do_k:w.heap.size<W9.heap.size:=by omega
  have dl_k:vl<W9.heap.size:=by omega
  have dh_k:vh<W9.heap.size:=by omega
  have d0_k:w.heap.size≤W9.heap.size:=by have:=hB.size;omega
  have sB:=hB.size;refine wp_cut (kp2 hB ra ro fun X=>Row X vl (oN l)∧Row X vh (oN hh)∧Row X W9.heap.size (oN one)) ⟨BW,RW8,RW8,RW8,RW8,RW8⟩ ?_;unfold kp2;clear ra sa ro so rl sl rh sh hB sB;rintro V10 ⟨hB,ra,ro,rl,rh,rk⟩;have sa:=RF5 ra;have so:=RFz5 ro;have sl:=RF2 rl;have sh:=RF2 rh;have sk:=RFz2 rk;refine wp_region_items 20 [.val (.agg #[.string (S om.num),.string (S (om.den:Int))]),.val (.agg #[.string (S l.num),.string (S (l.den:Int))]),.val (.agg #[.string (S hh.num),.string (S (hh.den:Int))]),.val (.agg #[.string (S plh.num),.string (S (plh.den:Int))]),.val (.agg #[.string (S slo.num),.string (S (slo.den:Int))]),.val (.agg #[.string (S four.num),.string (S (four.den:Int))]),.val (.agg #[.string (S l.num),.string (S (l.den:Int))]),.val (.agg #[.string (S hh.num),.string (S (hh.den:Int))]),.val (.agg #[.string (S psm.num),.string (S (psm.den:Int))]),.val (.agg #[.string (S uu.num),.string (S (uu.den:Int))]),.val (.agg #[.string (S one.num),.string (S (one.den:Int))]),.val (.agg #[.string (S l.num),.string (S (l.den:Int))]),.val (.agg #[.string (S v1.num),.string (S (v1.den:Int))]),.val (.agg #[.string (S one.num),.string (S (one.den:Int))]),.val (.agg #[.string (S hh.num),.string (S (hh.den:Int))]),.val (.agg #[.string (S v2.num),.string (S (v2.den:Int))]),.val (.agg #[.string (S vv.num),.string (S (vv.den:Int))]),.val (.agg #[.string (S slo.num),.string (S (slo.den:Int)),.string (S uu.num),.string (S (uu.den:Int)),.string (S vv.num),.string (S (vv.den:Int))]),.val (.agg #[.string (S a.c.num),.string (S (a.c.den:Int)),.slice pa a.t.length ca,.string (S a.r.num),.string (S (a.r.den:Int))]),.say (SayF G)] (by kernel_rfl) (by kernel_rfl) ⟨SayF.mono _,trivial⟩ (allItems.cons (qi2 fun X h=>Wm X (he.below (hB.trans (h.mono hB.size)))) (allItems.cons (qi1 fun X h=>RF2 (Row.below rl h)) (allItems.cons (qi1 fun X h=>RF2 (Row.below rh h)) (allItems.cons (qi2 fun X h=>K1 X (he.below (hB.trans (h.mono hB.size)))) (allItems.cons (qi2 fun X h=>K2 X (he.below (hB.trans (h.mono hB.size)))) (allItems.cons (qi2 fun X h=>W4_ X (he.below (hB.trans (h.mono hB.size)))) (allItems.cons (qi1 fun X h=>RF2 (Row.below rl h)) (allItems.cons (qi1 fun X h=>RF2 (Row.below rh h)) (allItems.cons (qi2 fun X h=>K3 X (he.below (hB.trans (h.mono hB.size)))) (allItems.cons (qi2 fun X h=>K4 X (he.below (hB.trans (h.mono hB.size)))) (allItems.cons (qi1 fun X h=>RFz2 (Row.below rk h)) (allItems.cons (qi1 fun X h=>RF2 (Row.below rl h)) (allItems.cons (qi2 fun X h=>K5 X (he.below (hB.trans (h.mono hB.size)))) (allItems.cons (qi1 fun X h=>RFz2 (Row.below rk h)) (allItems.cons (qi1 fun X h=>RF2 (Row.below rh h)) (allItems.cons (qi2 fun X h=>K6 X (he.below (hB.trans (h.mono hB.size)))) (allItems.cons (qi2 fun X h=>K7 X (he.below (hB.trans (h.mono hB.size)))) (allItems.cons qi0 (allItems.cons (qi1 fun X h=>RF5 (Row.below ra h)) (allItems.cons (qi3 fun X h=>KL X (UAt.below HPa.out (hB.trans (h.mono hB.size))) (he.below (hB.trans (h.mono hB.size)))) trivial)))))))))))))))))))) ?_
  rintro W h1;have stp:=St5 hB h1 ra ro rl rh rk;clear hB h1 ra sa ro so rl sl rh sh rk sk;obtain ⟨hB,ra,ro,rl,rh,rk⟩:=stp;have sa:=RF5 ra;have so:=RFz5 ro;have sl:=RF2 rl;have sh:=RF2 rh;have sk:=RFz2 rk;simp only [setItems,List.setIfInBounds_toArray,List.set_cons_succ,List.set_cons_zero,List.take_succ_cons,List.take_zero,List.drop_succ_cons,List.drop_zero];rintro _ ⟨pg,cg,rfl,hT⟩;go_wp2_with fail;have sB:=hB.size;refine post_cut (fun X=>Below w.heap.size w X∧Row X w.heap.size (oF G.c G.r pg G.t.length cg)∧TAt 55 X pg G.t) ⟨BW,RW8,TW⟩ ?_;clear ra sa ro so rl sl rh sh rk sk hB sB hT;rintro V11 ⟨hB,ro,hT⟩;have so:=RFz5 ro;refine bodyPost_ret (v := .agg #[.string (S G.c.num),.string (S (G.c.den:Int)),.slice pg G.t.length cg,.string (S G.r.num),.string (S (G.r.den:Int))]) ?res rfl ⟨G,pg,cg,rfl,hT,rfl,hB⟩
  case res=>simp [results,Tryz.results52, go_sem,so]
theorem ainverse {a:Frm} (h:InvF a) (oa:a.Ok) (pa:Option Addr) (ca:Nat) (w:World) (hpa:TAt 55 w pa a.t) (he:Env w):Calls Tryz.prog 18 #[FV a pa ca] w (FRes (invF a) w):=by
 have hB:Below w.heap.size w w:=Below.refl _ _;have HPa:=Lib.hid hpa;have da:=h.r.rad.dig;have CF:=fun s W (r:Row W s (oF a.c a.r pa a.t.length ca)) (h1:TAt 55 W pa a.t) (H:Env W)=>fcontains1 115 (enters_of Tryz.func115 (by kernel_rfl) rfl) s a pa ca W r (fun X hX=>afbad oa da pa ca X (UAt.below h1 hX) (H.below hX))
 have CR:=fun ba W (ra:Row W ba (oF a.c a.r pa a.t.length ca)) (h1:TAt 55 W pa a.t) (H:Env W)=>ainv1 h oa pa ca ba W ra h1 H
 generalize invF a=G at *;unfold FRes;unfold FV;clear hpa h oa da;go_enter Tryz.func18, Tryz.ntmps18;go_wp2_with fail;have d0_o:w.heap.size≤w.heap.size+1:=by have:=hB.size;omega
 have sB:=hB.size;refine world_cut (fun X=>Below w.heap.size w X∧Row X w.heap.size (oF a.c a.r pa a.t.length ca)∧Row X (w.heap.size+1) oF0∧Row X (w.heap.size+1+1) (oF a.c a.r pa a.t.length ca)) ⟨BW,RW8,RW8,RW8⟩ ?_;clear hB sB;rintro V1 ⟨hB,ra,ro,rb2⟩;have sa:=RF5 ra;have so:=RFz5 ro;have sb2:=RF5 rb2;refine (afcompute_ok 52 _ _ _ (fun g=>G=g) _ (enters_of Tryz.func52 (by kernel_rfl) rfl) (fun X h=>CF _ _ (Row.below rb2 h) (UAt.below HPa.out (hB.trans (h.mono hB.size))) (he.below (hB.trans (h.mono hB.size)))) (fun X h=>CR _ _ (Row.below ra h) (UAt.below HPa.out (hB.trans (h.mono hB.size))) (he.below (hB.trans (h.mono hB.size))))).mono ?_;rintro e W2 ⟨_,pg,cg,rfl,hT,rfl,h1⟩;have stp:=St3 hB h1 ra ro rb2;clear hB h1 ra sa ro so rb2 sb2;obtain ⟨hB,ra,ro,rb2⟩:=stp;have sa:=RF5 ra;have so:=RFz5 ro;have sb2:=RF5 rb2;unfold FV;go_wp2_with fail;have sB:=hB.size;refine post_cut (fun X=>Below w.heap.size w X∧Row X (w.heap.size+1) (oF G.c G.r pg G.t.length cg)∧TAt 55 X pg G.t) ⟨BW,RW8,TW⟩ ?_;clear ra sa ro so rb2 sb2 hB sB hT;rintro V3 ⟨hB,ro,hT⟩;have so:=RFz5 ro;refine bodyPost_ret (v := .tuple #[.agg #[.string (S G.c.num),.string (S (G.c.den:Int)),.slice pg G.t.length cg,.string (S G.r.num),.string (S (G.r.den:Int))],.int .i64 0]) ?res rfl ⟨pg,cg,hT,rfl,hB⟩
 case res=>simp [results,Tryz.results18, go_sem,so]
end Go.Proofs.YtdikaoahgleffaaGreatDoor
