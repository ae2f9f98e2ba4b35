/-
 Package affine: Scale, Mul, at valid forms, where nothing is too large.
-/
import Derived.Test.YtnokpldomlmamaaGreatDoorKAComb
set_option linter.unusedSimpArgs false
set_option linter.unusedVariables false
set_option maxRecDepth 100000
set_option maxHeartbeats 16000000
namespace Go.Proofs.YtnokpldomlmamaaGreatDoor
open Go Go.RowKit Go.Lib Go.Shelf
attribute [local go_sem] normalQ
theorem ascale {r:Rat} {a:Frm} (h:CombF r 0 a (constF 0)) (oa:a.Ok) (da:FDig 200 a) (pa:Option Addr) (ca:Nat) (w:World) (hpa:TAt 62 w pa a.t) (he:Env w):Calls Tryz.prog 40 #[FV a pa ca,Q r] w (FRes (combF r 0 a (constF 0)) w):=by
 have hB:Below w.heap.size w w:=Below.refl _ _
 have HPa:=Lib.hid hpa
 have FN:=fnum
 have MV:=fun W (H:Env W)=>qvalid r h.lin.dp W H
 have M0:=fun W (H:Env W)=>awhole (n:=0) (by decide) whole0 W H
 have MK:=fun W (H:Env W)=>aconst (q:=0) dig0 W H
 have MC:∀ W,TAt 62 W pa a.t→Env W→Calls Tryz.prog 77 #[.agg #[.string (S a.c.num),.string (S (a.c.den:Int)),.slice pa a.t.length ca,.string (S a.r.num),.string (S (a.r.den:Int))],.agg #[.string (S (0:Rat).num),.string (S ((0:Rat).den:Int)),.slice none 0 0,.string (S (0:Rat).num),.string (S ((0:Rat).den:Int))],Q r,Q 0] W (fun e w'=>∃ v,e = .returned v∧SayFT (combF r 0 a (constF 0)) v w'∧Below W.heap.size W w'):=fun W h1 H=>FRes.say (acombine h oa (const_ok 0) da ⟨dig0,by simp [constF],dig0⟩ pa ca none 0 W h1 (UAt.nil _ _) H)
 generalize combF r 0 a (constF 0)=G at *
 unfold FRes
 unfold FV at *
 unfold QIs at M0
 unfold ConstIs at MK
 unfold BoolOk at MV
 unfold Q at *
 generalize (0:Rat)=z at *
 clear hpa h oa da
 go_enter Tryz.func40, Tryz.ntmps40
 go_wp2_with fail
 have d0_o:w.heap.size≤w.heap.size+1+1:=by have:=hB.size;omega
 have sB:=hB.size
 refine world_cut (fun X=>Below w.heap.size w X∧Row X w.heap.size (.cells #[.string (S a.c.num),.string (S (a.c.den:Int)),.slice pa a.t.length ca,.string (S a.r.num),.string (S (a.r.den:Int))] 58)∧Row X (w.heap.size+1) (.cells #[.string (S r.num),.string (S (r.den:Int))] 23)∧Row X (w.heap.size+1+1) (.cells #[.string ⟨#[]⟩,.string ⟨#[]⟩,.slice none 0 0,.string ⟨#[]⟩,.string ⟨#[]⟩] 58)) ⟨BW,RW8,RW8,RW8⟩ ?_
 clear hB sB
 rintro V1 ⟨hB,ra,rr,ro⟩
 have sa:=RF5 ra
 have sr:=RF2 rr
 have so:=RFz5 ro
 refine (MV _ (he.below hB)).mono ?_
 rintro e W2 ⟨rfl,h1⟩
 have stp:=St3 hB h1 ra rr ro;clear hB h1 ra sa rr sr ro so
 obtain ⟨hB,ra,rr,ro⟩:=stp
 have sa:=RF5 ra
 have sr:=RF2 rr
 have so:=RFz5 ro
 go_wp2_with fail
 refine wp_region_late 10 [9] [.val (.agg #[.string (S a.c.num),.string (S (a.c.den:Int)),.slice pa a.t.length ca,.string (S a.r.num),.string (S (a.r.den:Int))]),.val (.agg #[.string (S z.num),.string (S (z.den:Int))]),.val (.agg #[.string (S z.num),.string (S (z.den:Int))]),.val (.agg #[.string (S z.num),.string (S (z.den:Int)),.slice none 0 0,.string (S z.num),.string (S (z.den:Int))]),.val (.agg #[.string (S r.num),.string (S (r.den:Int))]),.val (.agg #[.string (S r.num),.string (S (r.den:Int))]),.val (.agg #[.string (S z.num),.string (S (z.den:Int))]),.say (SayFT G),.say (SayF G),.val (.int .i64 0)] [] (by kernel_rfl) (by kernel_rfl) (by kernel_rfl) rfl ⟨SayFT.mono _,⟨SayF.mono _,trivial⟩⟩ (allItems.cons (qi1 fun X h=>RF5 (Row.below ra h)) (allItems.cons (qi2 fun X h=>M0 X (he.below (hB.trans (h.mono hB.size)))) (allItems.cons (qif FN) (allItems.cons (qi2 fun X h=>MK X (he.below (hB.trans (h.mono hB.size)))) (allItems.cons (qi1 fun X h=>RF2 (Row.below rr h)) (allItems.cons qi0 (allItems.cons (qi2 fun X h=>M0 X (he.below (hB.trans (h.mono hB.size)))) (allItems.cons (qi3 fun X h=>MC X (UAt.below HPa.out (hB.trans (h.mono hB.size))) (he.below (hB.trans (h.mono hB.size)))) (allItems.cons (by intro ρ X qX qc qg qf qt qd;simp [depsSay,itemSp,QItem.sp,Region.binds] at qd;obtain ⟨p,c,e,h1⟩:=qd;simp [Region.wanted,yieldedBy,quietly,QItem.sp,execOp,go_sem,foreign,qc,qt,qf,Below.refl,e];exact ⟨p,c,rfl,h1⟩) (allItems.cons (qId' (by intro ρ X qX qc qg qf qt qd;simp [depsSay,itemSp,QItem.sp,Region.binds] at qd;obtain ⟨p,c,e,h1⟩:=qd;simp [Region.wanted,yieldedBy,quietly,QItem.sp,execOp,go_sem,foreign,qc,qt,qf,Below.refl,e])) trivial)))))))))) ?_
 rintro W h1
 have stp:=St3 hB h1 ra rr ro;clear hB h1 ra sa rr sr ro so
 obtain ⟨hB,ra,rr,ro⟩:=stp
 have sa:=RF5 ra
 have sr:=RF2 rr
 have so:=RFz5 ro
 simp only [setItems,List.setIfInBounds_toArray,List.set_cons_succ,List.set_cons_zero,List.take_succ_cons,List.take_zero,List.drop_succ_cons,List.drop_zero]
 rintro _ -
 rintro _ ⟨pg,cg,rfl,hT⟩
 intro _
 go_wp2_with fail
 unfold normalQ
 go_wp2_with fail
 have sB:=hB.size
 refine post_cut (fun X=>Below w.heap.size w X∧Row X (w.heap.size+1+1) (.cells #[.string (S G.c.num),.string (S (G.c.den:Int)),.slice pg G.t.length cg,.string (S G.r.num),.string (S (G.r.den:Int))] 58)∧TAt 62 X pg G.t) ⟨BW,RW8,TW⟩ ?_
 clear ra
 clear sa
 clear rr
 clear sr
 clear ro
 clear so
 clear hB sB hT
 rintro V3 ⟨hB,ro,hT⟩
 have so:=RFz5 ro
 refine bodyPost_ret (v := .tuple #[.agg #[.string (S G.c.num),.string (S (G.c.den:Int)),.slice pg G.t.length cg,.string (S G.r.num),.string (S (G.r.den:Int))],.int .i64 0]) ?res rfl ⟨pg,cg,hT,rfl,hB⟩
 case res=>simp [results,Tryz.results40, go_sem,so]
/-- A product is not too large. -/
structure MulF (a b:Frm):Prop where
 lin:LinF b.c a.c a b
 c:MF a.c b.c
 ra:RadF a
 rb:RadF b
 rr:MF (rad a) (rad b)
 rs:AF (absQ b.c * a.r+absQ a.c * b.r) (rad a * rad b)
theorem amul1 {a b:Frm} (h:MulF a b) (la:a.t.length≤100000) (lb:b.t.length≤100000) (pa:Option Addr) (ca:Nat) (pb:Option Addr) (cb:Nat) (ba bb:Nat) (w:World) (ra:Row w ba (.cells #[.string (S a.c.num),.string (S (a.c.den:Int)),.slice pa a.t.length ca,.string (S a.r.num),.string (S (a.r.den:Int))] 58)) (rb:Row w bb (.cells #[.string (S b.c.num),.string (S (b.c.den:Int)),.slice pb b.t.length cb,.string (S b.r.num),.string (S (b.r.den:Int))] 58)) (hpa:TAt 62 w pa a.t) (hpb:TAt 62 w pb b.t) (he:Env w):Calls Tryz.prog 80 #[.pointer (some ⟨ba,0,none⟩),.pointer (some ⟨bb,0,none⟩)] w (afIs (fun g=>mulF a b=g) w):=by
 have hB:Below w.heap.size w w:=Below.refl _ _
 have HPa:=Lib.hid hpa
 have HPb:=Lib.hid hpb
 have FN:=fnum
 have ML:=fun W (h1:TAt 62 W pa a.t) (h2:TAt 62 W pb b.t) (H:Env W)=>alinear h.lin la lb pa ca pb cb W h1 h2 H
 have M1:=fun W (H:Env W)=>nmul h.c W H
 have MA:=fun W (h1:TAt 62 W pa a.t) (H:Env W)=>aradius h.ra (Nat.le_trans la (by decide)) (S a.c.num) (S (a.c.den:Int)) pa ca W h1 H
 have MB:=fun W (h1:TAt 62 W pb b.t) (H:Env W)=>aradius h.rb (Nat.le_trans lb (by decide)) (S b.c.num) (S (b.c.den:Int)) pb cb W h1 H
 have M3:=fun W (H:Env W)=>nmul h.rr W H
 have M4:=fun W (H:Env W)=>nadd h.rs W H
 unfold LinRes FV at ML
 unfold QIs at M1 M3 M4 MA MB
 unfold afIs FV mulF
 generalize lin b.c a.c a.t b.t=L at *
 generalize absQ b.c * a.r+absQ a.c * b.r+rad a * rad b=res at *
 generalize absQ b.c * a.r+absQ a.c * b.r=rs at *
 generalize a.c * b.c=cc at *
 generalize rad a * rad b=xy at *
 generalize rad a=x at *
 generalize rad b=y at *
 unfold Q at *
 clear hpa hpb h
 have sa:=RF5 ra
 have sb:=RF5 rb
 go_enter Tryz.func80, Tryz.ntmps80
 have so1:=ra.1
 have so2:=rb.1
 go_upto_region 1 with fail
 have da_o:ba<w.heap.size:=by omega
 have db_o:bb<w.heap.size:=by omega
 have d0_o:w.heap.size≤w.heap.size:=by have:=hB.size;omega
 have sB:=hB.size
 refine wp_cut (fun X=>Below w.heap.size w X∧Row X ba (.cells #[.string (S a.c.num),.string (S (a.c.den:Int)),.slice pa a.t.length ca,.string (S a.r.num),.string (S (a.r.den:Int))] 58)∧Row X bb (.cells #[.string (S b.c.num),.string (S (b.c.den:Int)),.slice pb b.t.length cb,.string (S b.r.num),.string (S (b.r.den:Int))] 58)∧Row X w.heap.size (.cells #[.string ⟨#[]⟩,.string ⟨#[]⟩,.slice none 0 0,.string ⟨#[]⟩,.string ⟨#[]⟩] 58)) ⟨BW,RW8,RW8,RW8⟩ ?_
 clear ra
 clear sa
 clear rb
 clear sb
 clear hB sB
 rintro V1 ⟨hB,ra,rb,ro⟩
 have sa:=RF5 ra
 have sb:=RF5 rb
 have so:=RFz5 ro
 have l_a:=ra.1
 have l_b:=rb.1
 have l_o:=ro.1
 have l_W:=hB.size
 refine Code.wp_mono (Q:=fun ex ac wx=>ex = .normal∧∃ (vx vy:Nat) (u6 u7 u8 u9 u10 u11:Value),ac={ tmps:=#[.pointer (some ⟨ba,0,none⟩),.pointer (some ⟨bb,0,none⟩),.pointer (some ⟨w.heap.size,0,none⟩),.pointer (some ⟨vx,0,none⟩),.pointer (some ⟨vy,0,none⟩),undef,u6,u7,u8,u9,u10,u11,undef,undef,undef,undef,undef,undef,undef,undef,undef,undef,undef,undef,undef,undef,undef,undef,undef,undef,undef,undef,undef,undef],defers:=[] }∧Below w.heap.size w wx∧Row wx ba (.cells #[.string (S a.c.num),.string (S (a.c.den:Int)),.slice pa a.t.length ca,.string (S a.r.num),.string (S (a.r.den:Int))] 58)∧Row wx bb (.cells #[.string (S b.c.num),.string (S (b.c.den:Int)),.slice pb b.t.length cb,.string (S b.r.num),.string (S (b.r.den:Int))] 58)∧Row wx w.heap.size (.cells #[.string ⟨#[]⟩,.string ⟨#[]⟩,.slice none 0 0,.string ⟨#[]⟩,.string ⟨#[]⟩] 58)∧Row wx vx (.cells #[.string (S a.c.num),.string (S (a.c.den:Int))] 112)∧V1.heap.size≤vx∧Row wx vy (.cells #[.string (S b.c.num),.string (S (b.c.den:Int))] 112)∧V1.heap.size≤vy∧vx≠vy) ?rest ?first
 case first =>
  have sB:=hB.size
  have KK:∀ X,Row X ba (.cells #[.string (S a.c.num),.string (S (a.c.den:Int)),.slice pa a.t.length ca,.string (S a.r.num),.string (S (a.r.den:Int))] 58)→Row X bb (.cells #[.string (S b.c.num),.string (S (b.c.den:Int)),.slice pb b.t.length cb,.string (S b.r.num),.string (S (b.r.den:Int))] 58)→(X.cell? ⟨ba,0,none⟩=some (.string (S a.c.num))∧X.cell? ⟨ba,1,none⟩=some (.string (S (a.c.den:Int)))∧X.cell? ⟨bb,0,none⟩=some (.string (S b.c.num))∧X.cell? ⟨bb,1,none⟩=some (.string (S (b.c.den:Int)))):=fun X ha hb=>⟨Row.cell_at ha 0 rfl,Row.cell_at ha 1 rfl,Row.cell_at hb 0 rfl,Row.cell_at hb 1 rfl⟩
  clear sa
  clear sb
  clear so
  go_region_held3 (fun X=>X.cell? ⟨ba,0,none⟩=some (.string (S a.c.num))∧X.cell? ⟨ba,1,none⟩=some (.string (S (a.c.den:Int)))∧X.cell? ⟨bb,0,none⟩=some (.string (S b.c.num))∧X.cell? ⟨bb,1,none⟩=some (.string (S (b.c.den:Int)))) (first | exact KK _ RW8 RW8) (first
      | fail)
  all_goals (refine ⟨rfl,_,_,_,_,_,_,_,_,rfl,?_,?_,?_,?_,?_,?_,?_,?_,?_⟩)
  all_goals first | omega | ((repeat (first | (with_reducible assumption) | (with_reducible exact Below.refl _ _) | (with_reducible refine Below.drew ?_) | (with_reducible refine below_drewN ?_ _) | (with_reducible refine Below.alloc ?_ (by first | omega | (simp;done) | (simp;omega)) _) | (with_reducible refine Below.setCell ?_ (by first | omega | (simp;done) | (simp;omega)) _)));done) | ((repeat (first | (with_reducible assumption) | (with_reducible exact row_new' (by first | omega | (simp;done) | (simp;omega))) | (with_reducible refine Row.drew ?_) | (with_reducible refine Row.drewN ?_ _) | (with_reducible refine Row.alloc ?_ _) | (with_reducible apply Row.set5) | (with_reducible apply Row.set2) | (with_reducible refine Row.set_other ?_ _ (by first | omega | (simp;done) | (simp;omega)))));done) | (simp;done) | (simp;omega)
 case rest =>
  clear hB ra rb ro
  clear sa
  clear sb
  clear so
  rintro ex ac wx ⟨rfl,vx,vy,u6,u7,u8,u9,u10,u11,rfl,hB,ra,rb,ro,rx,hvx,ry,hvy,nx_y⟩
  have da_x:ba<vx:=by omega
  have da_y:ba<vy:=by omega
  have db_x:bb<vx:=by omega
  have db_y:bb<vy:=by omega
  have do_x:w.heap.size<vx:=by omega
  have do_y:w.heap.size<vy:=by omega
  have d0_x:w.heap.size≤vx:=by omega
  have d0_y:w.heap.size≤vy:=by omega
  have sa:=RF5 ra
  have sb:=RF5 rb
  have so:=RFz5 ro
  have sx:=RFz2 rx
  have sy:=RFz2 ry
  go_wp2_with fail
  refine (ML _ (UAt.below HPa.out hB) (UAt.below HPb.out hB) (he.below hB)).mono ?_
  rintro e W3 ⟨pl,cl,hT,rfl,h1⟩
  have stp:=St5 hB h1 ra rb ro rx ry;clear hB h1 ra sa rb sb ro so rx sx ry sy
  obtain ⟨hB,ra,rb,ro,rx,ry⟩:=stp
  have sa:=RF5 ra
  have sb:=RF5 rb
  have so:=RFz5 ro
  have sx:=RFz2 rx
  have sy:=RFz2 ry
  go_wp2_with fail
  have da_t:ba<W3.heap.size:=by omega
  have db_t:bb<W3.heap.size:=by omega
  have do_t:w.heap.size<W3.heap.size:=by omega
  have d0_t:w.heap.size≤W3.heap.size:=by have:=hB.size;omega
  have sB:=hB.size
  refine world_cut (fun X=>Below w.heap.size w X∧Row X ba (.cells #[.string (S a.c.num),.string (S (a.c.den:Int)),.slice pa a.t.length ca,.string (S a.r.num),.string (S (a.r.den:Int))] 58)∧Row X bb (.cells #[.string (S b.c.num),.string (S (b.c.den:Int)),.slice pb b.t.length cb,.string (S b.r.num),.string (S (b.r.den:Int))] 58)∧Row X w.heap.size (.cells #[.string ⟨#[]⟩,.string ⟨#[]⟩,.slice none 0 0,.string ⟨#[]⟩,.string ⟨#[]⟩] 58)∧Row X W3.heap.size (.cells #[.string ⟨#[]⟩,.string ⟨#[]⟩,.slice pl L.length cl,.string (S rs.num),.string (S (rs.den:Int))] 58)∧TAt 62 X pl L) ⟨BW,RW8,RW8,RW8,RW8,TW⟩ ?_
  clear ra
  clear sa
  clear rb
  clear sb
  clear ro
  clear so
  clear rx
  clear sx
  clear ry
  clear sy
  clear hB sB hT
  rintro V4 ⟨hB,ra,rb,ro,rt,hT⟩
  have sa:=RF5 ra
  have sb:=RF5 rb
  have so:=RFz5 ro
  have st:=RFz5 rt
  refine (M1 _ (he.below hB)).mono ?_
  rintro e W5 ⟨rfl,h1⟩
  replace hT:=UAt.below hT h1
  have stp:=St4 hB h1 ra rb ro rt;clear hB h1 ra sa rb sb ro so rt st
  obtain ⟨hB,ra,rb,ro,rt⟩:=stp
  have sa:=RF5 ra
  have sb:=RF5 rb
  have so:=RFz5 ro
  have st:=RFz5 rt
  go_wp2_with fail
  have sB:=hB.size
  refine wp_cut (fun X=>Below w.heap.size w X∧Row X ba (.cells #[.string (S a.c.num),.string (S (a.c.den:Int)),.slice pa a.t.length ca,.string (S a.r.num),.string (S (a.r.den:Int))] 58)∧Row X bb (.cells #[.string (S b.c.num),.string (S (b.c.den:Int)),.slice pb b.t.length cb,.string (S b.r.num),.string (S (b.r.den:Int))] 58)∧Row X w.heap.size (.cells #[.string ⟨#[]⟩,.string ⟨#[]⟩,.slice none 0 0,.string ⟨#[]⟩,.string ⟨#[]⟩] 58)∧Row X W3.heap.size (.cells #[.string (S cc.num),.string (S (cc.den:Int)),.slice pl L.length cl,.string (S rs.num),.string (S (rs.den:Int))] 58)∧TAt 62 X pl L) ⟨BW,RW8,RW8,RW8,RW8,TW⟩ ?_
  clear ra
  clear sa
  clear rb
  clear sb
  clear ro
  clear so
  clear rt
  clear st
  clear hB sB hT
  rintro V6 ⟨hB,ra,rb,ro,rt,hT⟩
  have sa:=RF5 ra
  have sb:=RF5 rb
  have so:=RFz5 ro
  have st:=RFz5 rt
  refine wp_region_items 11 [.val (.pointer (some ⟨W3.heap.size,3,none⟩)),.val (.agg #[.string (S rs.num),.string (S (rs.den:Int))]),.val (.agg #[.string (S rs.num),.string (S (rs.den:Int))]),.val (.agg #[.string (S a.c.num),.string (S (a.c.den:Int)),.slice pa a.t.length ca,.string (S a.r.num),.string (S (a.r.den:Int))]),.val (.agg #[.string (S x.num),.string (S (x.den:Int))]),.val (.agg #[.string (S b.c.num),.string (S (b.c.den:Int)),.slice pb b.t.length cb,.string (S b.r.num),.string (S (b.r.den:Int))]),.val (.agg #[.string (S y.num),.string (S (y.den:Int))]),.val (.agg #[.string (S xy.num),.string (S (xy.den:Int))]),.val (.agg #[.string (S res.num),.string (S (res.den:Int))]),.val (.agg #[.string (S res.num),.string (S (res.den:Int))]),.val (.pointer (some ⟨W3.heap.size,3,none⟩))] (by kernel_rfl) (by kernel_rfl) trivial (allItems.cons qi0 (allItems.cons (qi1 fun X h=>RFz5 (Row.below rt h)) (allItems.cons qi0 (allItems.cons (qi1 fun X h=>RF5 (Row.below ra h)) (allItems.cons (qi2 fun X h=>MA X (UAt.below HPa.out (hB.trans (h.mono hB.size))) (he.below (hB.trans (h.mono hB.size)))) (allItems.cons (qi1 fun X h=>RF5 (Row.below rb h)) (allItems.cons (qi2 fun X h=>MB X (UAt.below HPb.out (hB.trans (h.mono hB.size))) (he.below (hB.trans (h.mono hB.size)))) (allItems.cons (qi2 fun X h=>M3 X (he.below (hB.trans (h.mono hB.size)))) (allItems.cons (qi2 fun X h=>M4 X (he.below (hB.trans (h.mono hB.size)))) (allItems.cons (qif FN) (allItems.cons qi0 trivial))))))))))) ?_
  rintro W h1
  replace hT:=UAt.below hT h1
  have stp:=St4 hB h1 ra rb ro rt;clear hB h1 ra sa rb sb ro so rt st
  obtain ⟨hB,ra,rb,ro,rt⟩:=stp
  have sa:=RF5 ra
  have sb:=RF5 rb
  have so:=RFz5 ro
  have st:=RFz5 rt
  simp only [setItems,List.setIfInBounds_toArray,List.set_cons_succ,List.set_cons_zero,List.take_succ_cons,List.take_zero,List.drop_succ_cons,List.drop_zero]
  go_wp2_with fail
  have sB:=hB.size
  refine post_cut (fun X=>Below w.heap.size w X∧Row X ba (.cells #[.string (S a.c.num),.string (S (a.c.den:Int)),.slice pa a.t.length ca,.string (S a.r.num),.string (S (a.r.den:Int))] 58)∧Row X bb (.cells #[.string (S b.c.num),.string (S (b.c.den:Int)),.slice pb b.t.length cb,.string (S b.r.num),.string (S (b.r.den:Int))] 58)∧Row X w.heap.size (.cells #[.string (S cc.num),.string (S (cc.den:Int)),.slice pl L.length cl,.string (S res.num),.string (S (res.den:Int))] 58)∧Row X W3.heap.size (.cells #[.string (S cc.num),.string (S (cc.den:Int)),.slice pl L.length cl,.string (S res.num),.string (S (res.den:Int))] 58)∧TAt 62 X pl L) ⟨BW,RW8,RW8,RW8,RW8,TW⟩ ?_
  clear ra
  clear sa
  clear rb
  clear sb
  clear ro
  clear so
  clear rt
  clear st
  clear hB sB hT
  rintro V7 ⟨hB,ra,rb,ro,rt,hT⟩
  have sa:=RF5 ra
  have sb:=RF5 rb
  have so:=RFz5 ro
  have st:=RFz5 rt
  refine bodyPost_ret (v := .agg #[.string (S cc.num),.string (S (cc.den:Int)),.slice pl L.length cl,.string (S res.num),.string (S (res.den:Int))]) ?res rfl ⟨⟨cc,L,res⟩,pl,cl,rfl,hT,rfl,hB⟩
  case res=>simp [results,Tryz.results80, go_sem,so]
theorem amul {a b:Frm} (h:MulF a b) (oa:a.Ok) (ob:b.Ok) (da:FDig 200 a) (db:FDig 200 b) (pa:Option Addr) (ca:Nat) (pb:Option Addr) (cb:Nat) (w:World) (hpa:TAt 62 w pa a.t) (hpb:TAt 62 w pb b.t) (he:Env w):Calls Tryz.prog 29 #[FV a pa ca,FV b pb cb] w (FRes (mulF a b) w):=by
 have hB:Below w.heap.size w w:=Below.refl _ _
 have HPa:=Lib.hid hpa
 have HPb:=Lib.hid hpb
 have CF:=fun s W (r:Row W s (.cells #[.string (S a.c.num),.string (S (a.c.den:Int)),.slice pa a.t.length ca,.string (S a.r.num),.string (S (a.r.den:Int)),.string (S b.c.num),.string (S (b.c.den:Int)),.slice pb b.t.length cb,.string (S b.r.num),.string (S (b.r.den:Int))] 58)) (h1:TAt 62 W pa a.t) (h2:TAt 62 W pb b.t) (H:Env W)=>fcontains2 155 (enters_of Tryz.func155 (by kernel_rfl) rfl) s a b pa pb ca cb W r (fun X hX=>afbad oa da pa ca X (UAt.below h1 hX) (H.below hX)) (fun X hX=>afbad ob db pb cb X (UAt.below h2 hX) (H.below hX))
 have CR:=fun ba bb W (ra:Row W ba (.cells #[.string (S a.c.num),.string (S (a.c.den:Int)),.slice pa a.t.length ca,.string (S a.r.num),.string (S (a.r.den:Int))] 58)) (rb:Row W bb (.cells #[.string (S b.c.num),.string (S (b.c.den:Int)),.slice pb b.t.length cb,.string (S b.r.num),.string (S (b.r.den:Int))] 58)) (h1:TAt 62 W pa a.t) (h2:TAt 62 W pb b.t) (H:Env W)=>amul1 h (Nat.le_trans oa.few (by decide)) (Nat.le_trans ob.few (by decide)) pa ca pb cb ba bb W ra rb h1 h2 H
 generalize mulF a b=G at *
 unfold FRes
 unfold FV
 clear hpa hpb h oa ob da db
 go_enter Tryz.func29, Tryz.ntmps29
 go_wp2_with fail
 have d0_o:w.heap.size≤w.heap.size+1+1:=by have:=hB.size;omega
 have sB:=hB.size
 refine world_cut (fun X=>Below w.heap.size w X∧Row X w.heap.size (.cells #[.string (S a.c.num),.string (S (a.c.den:Int)),.slice pa a.t.length ca,.string (S a.r.num),.string (S (a.r.den:Int))] 58)∧Row X (w.heap.size+1) (.cells #[.string (S b.c.num),.string (S (b.c.den:Int)),.slice pb b.t.length cb,.string (S b.r.num),.string (S (b.r.den:Int))] 58)∧Row X (w.heap.size+1+1) (.cells #[.string ⟨#[]⟩,.string ⟨#[]⟩,.slice none 0 0,.string ⟨#[]⟩,.string ⟨#[]⟩] 58)∧Row X (w.heap.size+1+1+1) (.cells #[.string (S a.c.num),.string (S (a.c.den:Int)),.slice pa a.t.length ca,.string (S a.r.num),.string (S (a.r.den:Int)),.string (S b.c.num),.string (S (b.c.den:Int)),.slice pb b.t.length cb,.string (S b.r.num),.string (S (b.r.den:Int))] 58)) ⟨BW,RW8,RW8,RW8,RW8⟩ ?_
 clear hB sB
 rintro V1 ⟨hB,ra,rb,ro,rb3⟩
 have sa:=RF5 ra
 have sb:=RF5 rb
 have so:=RFz5 ro
 have Fb3:∀ X,Row X (w.heap.size+1+1+1) (.cells #[.string (S a.c.num),.string (S (a.c.den:Int)),.slice pa a.t.length ca,.string (S a.r.num),.string (S (a.r.den:Int)),.string (S b.c.num),.string (S (b.c.den:Int)),.slice pb b.t.length cb,.string (S b.r.num),.string (S (b.r.den:Int))] 58)→(w.heap.size+1+1+1<X.heap.size∧X.cell? ⟨w.heap.size+1+1+1,0,none⟩=some (.string (S a.c.num))∧X.cell? ⟨w.heap.size+1+1+1,1,none⟩=some (.string (S (a.c.den:Int)))∧X.cell? ⟨w.heap.size+1+1+1,2,none⟩=some (.slice pa a.t.length ca)∧X.cell? ⟨w.heap.size+1+1+1,3,none⟩=some (.string (S a.r.num))∧X.cell? ⟨w.heap.size+1+1+1,4,none⟩=some (.string (S (a.r.den:Int)))∧X.cell? ⟨w.heap.size+1+1+1,5,none⟩=some (.string (S b.c.num))∧X.cell? ⟨w.heap.size+1+1+1,6,none⟩=some (.string (S (b.c.den:Int)))∧X.cell? ⟨w.heap.size+1+1+1,7,none⟩=some (.slice pb b.t.length cb)∧X.cell? ⟨w.heap.size+1+1+1,8,none⟩=some (.string (S b.r.num))∧X.cell? ⟨w.heap.size+1+1+1,9,none⟩=some (.string (S (b.r.den:Int)))):=fun X h=>⟨h.1,Row.cell_at h 0 rfl,Row.cell_at h 1 rfl,Row.cell_at h 2 rfl,Row.cell_at h 3 rfl,Row.cell_at h 4 rfl,Row.cell_at h 5 rfl,Row.cell_at h 6 rfl,Row.cell_at h 7 rfl,Row.cell_at h 8 rfl,Row.cell_at h 9 rfl⟩
 have sb3:=Fb3 _ rb3
 refine (afcompute_ok 80 _ _ _ (fun g=>G=g) _ (enters_of Tryz.func80 (by kernel_rfl) rfl) (fun X h=>CF _ _ (Row.below rb3 h) (UAt.below HPa.out (hB.trans (h.mono hB.size))) (UAt.below HPb.out (hB.trans (h.mono hB.size))) (he.below (hB.trans (h.mono hB.size)))) (fun X h=>CR _ _ _ (Row.below ra h) (Row.below rb h) (UAt.below HPa.out (hB.trans (h.mono hB.size))) (UAt.below HPb.out (hB.trans (h.mono hB.size))) (he.below (hB.trans (h.mono hB.size))))).mono ?_
 rintro e W2 ⟨_,pg,cg,rfl,hT,rfl,h1⟩
 have stp:=St4 hB h1 ra rb ro rb3;clear hB h1 ra sa rb sb ro so rb3 sb3
 obtain ⟨hB,ra,rb,ro,rb3⟩:=stp
 have sa:=RF5 ra
 have sb:=RF5 rb
 have so:=RFz5 ro
 have sb3:=Fb3 _ rb3
 unfold FV
 go_wp2_with fail
 clear Fb3
 have sB:=hB.size
 refine post_cut (fun X=>Below w.heap.size w X∧Row X (w.heap.size+1+1) (.cells #[.string (S G.c.num),.string (S (G.c.den:Int)),.slice pg G.t.length cg,.string (S G.r.num),.string (S (G.r.den:Int))] 58)∧TAt 62 X pg G.t) ⟨BW,RW8,TW⟩ ?_
 clear ra
 clear sa
 clear rb
 clear sb
 clear ro
 clear so
 clear rb3
 clear sb3
 clear hB sB hT
 rintro V3 ⟨hB,ro,hT⟩
 have so:=RFz5 ro
 refine bodyPost_ret (v := .tuple #[.agg #[.string (S G.c.num),.string (S (G.c.den:Int)),.slice pg G.t.length cg,.string (S G.r.num),.string (S (G.r.den:Int))],.int .i64 0]) ?res rfl ⟨pg,cg,hT,rfl,hB⟩
 case res=>simp [results,Tryz.results29, go_sem,so]
end Go.Proofs.YtnokpldomlmamaaGreatDoor
