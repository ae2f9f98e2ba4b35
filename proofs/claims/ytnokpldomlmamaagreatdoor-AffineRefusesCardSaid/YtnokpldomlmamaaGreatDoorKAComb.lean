/-
 Package affine: Const, Add, Sub, Scale, Mul, at valid forms, where nothing is too large.
-/
import Derived.Test.YtnokpldomlmamaaGreatDoorKALinear
import Derived.Test.YtnokpldomlmamaaGreatDoorKAMade
set_option linter.unusedSimpArgs false
set_option linter.unusedVariables false
set_option maxRecDepth 100000
set_option maxHeartbeats 16000000
namespace Go.Proofs.YtnokpldomlmamaaGreatDoor
open Go Go.RowKit Go.Lib Go.Shelf
attribute [local go_sem] normalQ
theorem qId' {p:Prop} (h:p):p:=h
/-- A form, and no error. -/
def FRes (G:Frm) (w:World) (e:Ending) (w':World):Prop:=∃ p c,TAt 62 w' p G.t∧e = .returned (.tuple #[FV G p c,.int .i64 0])∧Below w.heap.size w w'
def FIs (G:Frm) (w:World) (e:Ending) (w':World):Prop:=∃ p c,TAt 62 w' p G.t∧e = .returned (FV G p c)∧Below w.heap.size w w'
def ConstIs (q:Rat) (w:World) (e:Ending) (w':World):Prop:=e = .returned (.agg #[.string (S q.num),.string (S (q.den:Int)),.slice none 0 0,.string (S (0:Rat).num),.string (S ((0:Rat).den:Int))])∧Below w.heap.size w w'
def SayFT (G:Frm):QSay:=fun v W=>∃ p c,v = .tuple #[.agg #[.string (S G.c.num),.string (S (G.c.den:Int)),.slice p G.t.length c,.string (S G.r.num),.string (S (G.r.den:Int))],.int .i64 0]∧TAt 62 W p G.t
def SayF (G:Frm):QSay:=fun v W=>∃ p c,v = .agg #[.string (S G.c.num),.string (S (G.c.den:Int)),.slice p G.t.length c,.string (S G.r.num),.string (S (G.r.den:Int))]∧TAt 62 W p G.t
theorem SayFT.mono (G:Frm):qMono (SayFT G):=fun v W W' ⟨p,c,e,h⟩ hB=>⟨p,c,e,UAt.below h hB⟩
theorem SayF.mono (G:Frm):qMono (SayF G):=fun v W W' ⟨p,c,e,h⟩ hB=>⟨p,c,e,UAt.below h hB⟩
theorem FRes.say {P:Program} {F:FuncId} {args:Array Value} {G:Frm} {w:World} (h:Calls P F args w (FRes G w)):Calls P F args w (fun e w'=>∃ v,e = .returned v∧SayFT G v w'∧Below w.heap.size w w') :=
 h.mono fun e w' ⟨p,c,ht,he,hB⟩=>⟨_,he,⟨p,c,rfl,ht⟩,hB⟩
theorem FIs.say {P:Program} {F:FuncId} {args:Array Value} {G:Frm} {w:World} (h:Calls P F args w (FIs G w)):Calls P F args w (fun e w'=>∃ v,e = .returned v∧SayF G v w'∧Below w.heap.size w w') :=
 h.mono fun e w' ⟨p,c,ht,he,hB⟩=>⟨_,he,⟨p,c,rfl,ht⟩,hB⟩
theorem aconst {q:Rat} (hq:QDig 200 q) (w:World) (he:Env w):Calls Tryz.prog 74 #[Q q] w (ConstIs q w):=by
 have hB:Below w.heap.size w w:=Below.refl _ _
 have FN:=fnum
 have MV:=fun W (H:Env W)=>qvalid q hq W H
 have M0:=fun W (H:Env W)=>awhole (n:=0) (by decide) whole0 W H
 unfold ConstIs
 unfold QIs at M0
 unfold BoolOk at MV
 unfold Q at *
 clear hq
 generalize (0:Rat)=z at *
 go_enter Tryz.func74, Tryz.ntmps74
 go_wp2_with fail
 have d0_o:w.heap.size≤w.heap.size+1:=by have:=hB.size;omega
 have sB:=hB.size
 refine world_cut (fun X=>Below w.heap.size w X∧Row X w.heap.size (.cells #[.string (S q.num),.string (S (q.den:Int))] 23)∧Row X (w.heap.size+1) (.cells #[.string ⟨#[]⟩,.string ⟨#[]⟩,.slice none 0 0,.string ⟨#[]⟩,.string ⟨#[]⟩] 58)) ⟨BW,RW8,RW8⟩ ?_
 clear hB sB
 rintro V1 ⟨hB,rr,ro⟩
 have sr:=RF2 rr
 have so:=RFz5 ro
 refine (MV _ (he.below hB)).mono ?_
 rintro e W2 ⟨rfl,h1⟩
 have stp:=St2 hB h1 rr ro;clear hB h1 rr sr ro so
 obtain ⟨hB,rr,ro⟩:=stp
 have sr:=RF2 rr
 have so:=RFz5 ro
 go_wp2_with fail
 refine wp_region_items 4 [.val (.agg #[.string (S q.num),.string (S (q.den:Int))]),.val (.agg #[.string (S z.num),.string (S (z.den:Int))]),.val (.agg #[.string (S z.num),.string (S (z.den:Int))]),.val (.agg #[.string (S q.num),.string (S (q.den:Int)),.slice none 0 0,.string (S z.num),.string (S (z.den:Int))])] (by kernel_rfl) (by kernel_rfl) trivial (allItems.cons (qi1 fun X h=>RF2 (Row.below rr h)) (allItems.cons (qi2 fun X h=>M0 X (he.below (hB.trans (h.mono hB.size)))) (allItems.cons (qif FN) (allItems.cons qi0 trivial)))) ?_
 rintro W h1
 have stp:=St2 hB h1 rr ro;clear hB h1 rr sr ro so
 obtain ⟨hB,rr,ro⟩:=stp
 have sr:=RF2 rr
 have so:=RFz5 ro
 simp only [setItems,List.setIfInBounds_toArray,List.set_cons_succ,List.set_cons_zero,List.take_succ_cons,List.take_zero,List.drop_succ_cons,List.drop_zero]
 go_wp2_with fail
 have sB:=hB.size
 refine post_cut (fun X=>Below w.heap.size w X∧Row X (w.heap.size+1) (.cells #[.string (S q.num),.string (S (q.den:Int)),.slice none 0 0,.string (S z.num),.string (S (z.den:Int))] 58)) ⟨BW,RW8⟩ ?_
 clear rr
 clear sr
 clear ro
 clear so
 clear hB sB
 rintro V3 ⟨hB,ro⟩
 have so:=RFz5 ro
 refine bodyPost_ret (v := .agg #[.string (S q.num),.string (S (q.den:Int)),.slice none 0 0,.string (S z.num),.string (S (z.den:Int))]) ?res rfl ⟨rfl,hB⟩
 case res=>simp [results,Tryz.results74, go_sem,so]
theorem acomb1 {p q:Rat} {a b:Frm} (h:CombF p q a b) (la:a.t.length≤100000) (lb:b.t.length≤100000) (pa:Option Addr) (ca:Nat) (pb:Option Addr) (cb:Nat) (ba bb bp bq:Nat) (w:World) (ra:Row w ba (.cells #[.string (S a.c.num),.string (S (a.c.den:Int)),.slice pa a.t.length ca,.string (S a.r.num),.string (S (a.r.den:Int))] 58)) (rb:Row w bb (.cells #[.string (S b.c.num),.string (S (b.c.den:Int)),.slice pb b.t.length cb,.string (S b.r.num),.string (S (b.r.den:Int))] 58)) (rp:Row w bp (.cells #[.string (S p.num),.string (S (p.den:Int))] 112)) (rq:Row w bq (.cells #[.string (S q.num),.string (S (q.den:Int))] 112)) (hpa:TAt 62 w pa a.t) (hpb:TAt 62 w pb b.t) (he:Env w):Calls Tryz.prog 151 #[.pointer (some ⟨ba,0,none⟩),.pointer (some ⟨bb,0,none⟩),.pointer (some ⟨bp,0,none⟩),.pointer (some ⟨bq,0,none⟩)] w (afIs (fun g=>combF p q a b=g) w):=by
 have hB:Below w.heap.size w w:=Below.refl _ _
 have HPa:=Lib.hid hpa
 have HPb:=Lib.hid hpb
 have FN:=fnum
 have ML:=fun W (h1:TAt 62 W pa a.t) (h2:TAt 62 W pb b.t) (H:Env W)=>alinear h.lin la lb pa ca pb cb W h1 h2 H
 have M1:=fun W (H:Env W)=>nmul h.cl W H
 have M2:=fun W (H:Env W)=>nmul h.cr W H
 have M3:=fun W (H:Env W)=>nadd h.cs W H
 unfold LinRes FV at ML
 unfold QIs at M1 M2 M3
 unfold afIs FV combF
 generalize lin p q a.t b.t=L at *
 generalize absQ p * a.r+absQ q * b.r=rs at *
 generalize p * a.c+q * b.c=cc at *
 generalize p * a.c=x at *
 generalize q * b.c=y at *
 unfold Q at *
 clear hpa hpb h
 have sa:=RF5 ra
 have sb:=RF5 rb
 have sp:=RF2 rp
 have sq:=RF2 rq
 go_enter Tryz.func151, Tryz.ntmps151
 go_wp2_with fail
 have da_o:ba<w.heap.size:=by omega
 have db_o:bb<w.heap.size:=by omega
 have dp_o:bp<w.heap.size:=by omega
 have dq_o:bq<w.heap.size:=by omega
 have d0_o:w.heap.size≤w.heap.size:=by have:=hB.size;omega
 have sB:=hB.size
 refine world_cut (fun X=>Below w.heap.size w X∧Row X ba (.cells #[.string (S a.c.num),.string (S (a.c.den:Int)),.slice pa a.t.length ca,.string (S a.r.num),.string (S (a.r.den:Int))] 58)∧Row X bb (.cells #[.string (S b.c.num),.string (S (b.c.den:Int)),.slice pb b.t.length cb,.string (S b.r.num),.string (S (b.r.den:Int))] 58)∧Row X bp (.cells #[.string (S p.num),.string (S (p.den:Int))] 112)∧Row X bq (.cells #[.string (S q.num),.string (S (q.den:Int))] 112)∧Row X w.heap.size (.cells #[.string ⟨#[]⟩,.string ⟨#[]⟩,.slice none 0 0,.string ⟨#[]⟩,.string ⟨#[]⟩] 58)) ⟨BW,RW8,RW8,RW8,RW8,RW8⟩ ?_
 clear ra
 clear sa
 clear rb
 clear sb
 clear rp
 clear sp
 clear rq
 clear sq
 clear hB sB
 rintro V1 ⟨hB,ra,rb,rp,rq,ro⟩
 have sa:=RF5 ra
 have sb:=RF5 rb
 have sp:=RF2 rp
 have sq:=RF2 rq
 have so:=RFz5 ro
 refine (ML _ (UAt.below HPa.out hB) (UAt.below HPb.out hB) (he.below hB)).mono ?_
 rintro e W2 ⟨pl,cl,hT,rfl,h1⟩
 have stp:=St5 hB h1 ra rb rp rq ro;clear hB h1 ra sa rb sb rp sp rq sq ro so
 obtain ⟨hB,ra,rb,rp,rq,ro⟩:=stp
 have sa:=RF5 ra
 have sb:=RF5 rb
 have sp:=RF2 rp
 have sq:=RF2 rq
 have so:=RFz5 ro
 go_wp2_with fail
 have da_t:ba<W2.heap.size:=by omega
 have db_t:bb<W2.heap.size:=by omega
 have dp_t:bp<W2.heap.size:=by omega
 have dq_t:bq<W2.heap.size:=by omega
 have do_t:w.heap.size<W2.heap.size:=by omega
 have d0_t:w.heap.size≤W2.heap.size:=by have:=hB.size;omega
 have sB:=hB.size
 refine wp_cut (fun X=>Below w.heap.size w X∧Row X ba (.cells #[.string (S a.c.num),.string (S (a.c.den:Int)),.slice pa a.t.length ca,.string (S a.r.num),.string (S (a.r.den:Int))] 58)∧Row X bb (.cells #[.string (S b.c.num),.string (S (b.c.den:Int)),.slice pb b.t.length cb,.string (S b.r.num),.string (S (b.r.den:Int))] 58)∧Row X bp (.cells #[.string (S p.num),.string (S (p.den:Int))] 112)∧Row X bq (.cells #[.string (S q.num),.string (S (q.den:Int))] 112)∧Row X w.heap.size (.cells #[.string ⟨#[]⟩,.string ⟨#[]⟩,.slice none 0 0,.string ⟨#[]⟩,.string ⟨#[]⟩] 58)∧Row X W2.heap.size (.cells #[.string ⟨#[]⟩,.string ⟨#[]⟩,.slice pl L.length cl,.string (S rs.num),.string (S (rs.den:Int))] 58)∧TAt 62 X pl L) ⟨BW,RW8,RW8,RW8,RW8,RW8,RW8,TW⟩ ?_
 clear ra
 clear sa
 clear rb
 clear sb
 clear rp
 clear sp
 clear rq
 clear sq
 clear ro
 clear so
 clear hB sB hT
 rintro V3 ⟨hB,ra,rb,rp,rq,ro,rt,hT⟩
 have sa:=RF5 ra
 have sb:=RF5 rb
 have sp:=RF2 rp
 have sq:=RF2 rq
 have so:=RFz5 ro
 have st:=RFz5 rt
 refine wp_region_items 12 [.val (.agg #[.string (S p.num),.string (S (p.den:Int))]),.val (.pointer (some ⟨ba,0,none⟩)),.val (.agg #[.string (S a.c.num),.string (S (a.c.den:Int))]),.val (.agg #[.string (S a.c.num),.string (S (a.c.den:Int))]),.val (.agg #[.string (S x.num),.string (S (x.den:Int))]),.val (.agg #[.string (S q.num),.string (S (q.den:Int))]),.val (.pointer (some ⟨bb,0,none⟩)),.val (.agg #[.string (S b.c.num),.string (S (b.c.den:Int))]),.val (.agg #[.string (S b.c.num),.string (S (b.c.den:Int))]),.val (.agg #[.string (S y.num),.string (S (y.den:Int))]),.val (.agg #[.string (S cc.num),.string (S (cc.den:Int))]),.val (.agg #[.string (S cc.num),.string (S (cc.den:Int))])] (by kernel_rfl) (by kernel_rfl) trivial (allItems.cons (qi1 fun X h=>RF2 (Row.below rp h)) (allItems.cons qi0 (allItems.cons (qi1 fun X h=>RF5 (Row.below ra h)) (allItems.cons qi0 (allItems.cons (qi2 fun X h=>M1 X (he.below (hB.trans (h.mono hB.size)))) (allItems.cons (qi1 fun X h=>RF2 (Row.below rq h)) (allItems.cons qi0 (allItems.cons (qi1 fun X h=>RF5 (Row.below rb h)) (allItems.cons qi0 (allItems.cons (qi2 fun X h=>M2 X (he.below (hB.trans (h.mono hB.size)))) (allItems.cons (qi2 fun X h=>M3 X (he.below (hB.trans (h.mono hB.size)))) (allItems.cons (qif FN) trivial)))))))))))) ?_
 rintro W h1
 replace hT:=UAt.below hT h1
 have stp:=St6 hB h1 ra rb rp rq ro rt;clear hB h1 ra sa rb sb rp sp rq sq ro so rt st
 obtain ⟨hB,ra,rb,rp,rq,ro,rt⟩:=stp
 have sa:=RF5 ra
 have sb:=RF5 rb
 have sp:=RF2 rp
 have sq:=RF2 rq
 have so:=RFz5 ro
 have st:=RFz5 rt
 simp only [setItems,List.setIfInBounds_toArray,List.set_cons_succ,List.set_cons_zero,List.take_succ_cons,List.take_zero,List.drop_succ_cons,List.drop_zero]
 go_wp2_with fail
 have sB:=hB.size
 refine post_cut (fun X=>Below w.heap.size w X∧Row X w.heap.size (.cells #[.string (S cc.num),.string (S (cc.den:Int)),.slice pl L.length cl,.string (S rs.num),.string (S (rs.den:Int))] 58)∧TAt 62 X pl L) ⟨BW,RW8,TW⟩ ?_
 clear ra
 clear sa
 clear rb
 clear sb
 clear rp
 clear sp
 clear rq
 clear sq
 clear ro
 clear so
 clear rt
 clear st
 clear hB sB hT
 rintro V4 ⟨hB,ro,hT⟩
 have so:=RFz5 ro
 refine bodyPost_ret (v := .agg #[.string (S cc.num),.string (S (cc.den:Int)),.slice pl L.length cl,.string (S rs.num),.string (S (rs.den:Int))]) ?res rfl ⟨⟨cc,L,rs⟩,pl,cl,rfl,hT,rfl,hB⟩
 case res=>simp [results,Tryz.results151, go_sem,so]
theorem acombine {p q:Rat} {a b:Frm} (h:CombF p q a b) (oa:a.Ok) (ob:b.Ok) (da:FDig 200 a) (db:FDig 200 b) (pa:Option Addr) (ca:Nat) (pb:Option Addr) (cb:Nat) (w:World) (hpa:TAt 62 w pa a.t) (hpb:TAt 62 w pb b.t) (he:Env w):Calls Tryz.prog 77 #[FV a pa ca,FV b pb cb,Q p,Q q] w (FRes (combF p q a b) w):=by
 have hB:Below w.heap.size w w:=Below.refl _ _
 have HPa:=Lib.hid hpa
 have HPb:=Lib.hid hpb
 have CF:=fun s W (r:Row W s (.cells #[.string (S a.c.num),.string (S (a.c.den:Int)),.slice pa a.t.length ca,.string (S a.r.num),.string (S (a.r.den:Int)),.string (S b.c.num),.string (S (b.c.den:Int)),.slice pb b.t.length cb,.string (S b.r.num),.string (S (b.r.den:Int))] 58)) (h1:TAt 62 W pa a.t) (h2:TAt 62 W pb b.t) (H:Env W)=>fcontains2 155 (enters_of Tryz.func155 (by kernel_rfl) rfl) s a b pa pb ca cb W r (fun X hX=>afbad oa da pa ca X (UAt.below h1 hX) (H.below hX)) (fun X hX=>afbad ob db pb cb X (UAt.below h2 hX) (H.below hX))
 have CR:=fun ba bb bp bq W (ra:Row W ba (.cells #[.string (S a.c.num),.string (S (a.c.den:Int)),.slice pa a.t.length ca,.string (S a.r.num),.string (S (a.r.den:Int))] 58)) (rb:Row W bb (.cells #[.string (S b.c.num),.string (S (b.c.den:Int)),.slice pb b.t.length cb,.string (S b.r.num),.string (S (b.r.den:Int))] 58)) (rp:Row W bp (.cells #[.string (S p.num),.string (S (p.den:Int))] 112)) (rq:Row W bq (.cells #[.string (S q.num),.string (S (q.den:Int))] 112)) (h1:TAt 62 W pa a.t) (h2:TAt 62 W pb b.t) (H:Env W)=>acomb1 h (Nat.le_trans oa.few (by decide)) (Nat.le_trans ob.few (by decide)) pa ca pb cb ba bb bp bq W ra rb rp rq h1 h2 H
 generalize combF p q a b=G at *
 unfold FRes
 unfold FV
 unfold Q
 clear hpa hpb h oa ob da db
 go_enter Tryz.func77, Tryz.ntmps77
 go_wp2_with fail
 have d0_o:w.heap.size≤w.heap.size+1+1+1+1:=by have:=hB.size;omega
 have sB:=hB.size
 refine world_cut (fun X=>Below w.heap.size w X∧Row X w.heap.size (.cells #[.string (S a.c.num),.string (S (a.c.den:Int)),.slice pa a.t.length ca,.string (S a.r.num),.string (S (a.r.den:Int))] 58)∧Row X (w.heap.size+1) (.cells #[.string (S b.c.num),.string (S (b.c.den:Int)),.slice pb b.t.length cb,.string (S b.r.num),.string (S (b.r.den:Int))] 58)∧Row X (w.heap.size+1+1) (.cells #[.string (S p.num),.string (S (p.den:Int))] 112)∧Row X (w.heap.size+1+1+1) (.cells #[.string (S q.num),.string (S (q.den:Int))] 112)∧Row X (w.heap.size+1+1+1+1) (.cells #[.string ⟨#[]⟩,.string ⟨#[]⟩,.slice none 0 0,.string ⟨#[]⟩,.string ⟨#[]⟩] 58)∧Row X (w.heap.size+1+1+1+1+1) (.cells #[.string (S a.c.num),.string (S (a.c.den:Int)),.slice pa a.t.length ca,.string (S a.r.num),.string (S (a.r.den:Int)),.string (S b.c.num),.string (S (b.c.den:Int)),.slice pb b.t.length cb,.string (S b.r.num),.string (S (b.r.den:Int))] 58)) ⟨BW,RW8,RW8,RW8,RW8,RW8,RW8⟩ ?_
 clear hB sB
 rintro V1 ⟨hB,ra,rb,rp,rq,ro,rb5⟩
 have sa:=RF5 ra
 have sb:=RF5 rb
 have sp:=RF2 rp
 have sq:=RF2 rq
 have so:=RFz5 ro
 have Fb5:∀ X,Row X (w.heap.size+1+1+1+1+1) (.cells #[.string (S a.c.num),.string (S (a.c.den:Int)),.slice pa a.t.length ca,.string (S a.r.num),.string (S (a.r.den:Int)),.string (S b.c.num),.string (S (b.c.den:Int)),.slice pb b.t.length cb,.string (S b.r.num),.string (S (b.r.den:Int))] 58)→(w.heap.size+1+1+1+1+1<X.heap.size∧X.cell? ⟨w.heap.size+1+1+1+1+1,0,none⟩=some (.string (S a.c.num))∧X.cell? ⟨w.heap.size+1+1+1+1+1,1,none⟩=some (.string (S (a.c.den:Int)))∧X.cell? ⟨w.heap.size+1+1+1+1+1,2,none⟩=some (.slice pa a.t.length ca)∧X.cell? ⟨w.heap.size+1+1+1+1+1,3,none⟩=some (.string (S a.r.num))∧X.cell? ⟨w.heap.size+1+1+1+1+1,4,none⟩=some (.string (S (a.r.den:Int)))∧X.cell? ⟨w.heap.size+1+1+1+1+1,5,none⟩=some (.string (S b.c.num))∧X.cell? ⟨w.heap.size+1+1+1+1+1,6,none⟩=some (.string (S (b.c.den:Int)))∧X.cell? ⟨w.heap.size+1+1+1+1+1,7,none⟩=some (.slice pb b.t.length cb)∧X.cell? ⟨w.heap.size+1+1+1+1+1,8,none⟩=some (.string (S b.r.num))∧X.cell? ⟨w.heap.size+1+1+1+1+1,9,none⟩=some (.string (S (b.r.den:Int)))):=fun X h=>⟨h.1,Row.cell_at h 0 rfl,Row.cell_at h 1 rfl,Row.cell_at h 2 rfl,Row.cell_at h 3 rfl,Row.cell_at h 4 rfl,Row.cell_at h 5 rfl,Row.cell_at h 6 rfl,Row.cell_at h 7 rfl,Row.cell_at h 8 rfl,Row.cell_at h 9 rfl⟩
 have sb5:=Fb5 _ rb5
 refine (afcompute_ok 151 _ _ _ (fun g=>G=g) _ (enters_of Tryz.func151 (by kernel_rfl) rfl) (fun X h=>CF _ _ (Row.below rb5 h) (UAt.below HPa.out (hB.trans (h.mono hB.size))) (UAt.below HPb.out (hB.trans (h.mono hB.size))) (he.below (hB.trans (h.mono hB.size)))) (fun X h=>CR _ _ _ _ _ (Row.below ra h) (Row.below rb h) (Row.below rp h) (Row.below rq h) (UAt.below HPa.out (hB.trans (h.mono hB.size))) (UAt.below HPb.out (hB.trans (h.mono hB.size))) (he.below (hB.trans (h.mono hB.size))))).mono ?_
 rintro e W2 ⟨_,pg,cg,rfl,hT,rfl,h1⟩
 have stp:=St6 hB h1 ra rb rp rq ro rb5;clear hB h1 ra sa rb sb rp sp rq sq ro so rb5 sb5
 obtain ⟨hB,ra,rb,rp,rq,ro,rb5⟩:=stp
 have sa:=RF5 ra
 have sb:=RF5 rb
 have sp:=RF2 rp
 have sq:=RF2 rq
 have so:=RFz5 ro
 have sb5:=Fb5 _ rb5
 unfold FV
 go_wp2_with fail
 clear Fb5
 have sB:=hB.size
 refine post_cut (fun X=>Below w.heap.size w X∧Row X (w.heap.size+1+1+1+1) (.cells #[.string (S G.c.num),.string (S (G.c.den:Int)),.slice pg G.t.length cg,.string (S G.r.num),.string (S (G.r.den:Int))] 58)∧TAt 62 X pg G.t) ⟨BW,RW8,TW⟩ ?_
 clear ra
 clear sa
 clear rb
 clear sb
 clear rp
 clear sp
 clear rq
 clear sq
 clear ro
 clear so
 clear rb5
 clear sb5
 clear hB sB hT
 rintro V3 ⟨hB,ro,hT⟩
 have so:=RFz5 ro
 refine bodyPost_ret (v := .tuple #[.agg #[.string (S G.c.num),.string (S (G.c.den:Int)),.slice pg G.t.length cg,.string (S G.r.num),.string (S (G.r.den:Int))],.int .i64 0]) ?res rfl ⟨pg,cg,hT,rfl,hB⟩
 case res=>simp [results,Tryz.results77, go_sem,so]
theorem asub {a b:Frm} (h:CombF 1 (-1) a b) (oa:a.Ok) (ob:b.Ok) (da:FDig 200 a) (db:FDig 200 b) (pa:Option Addr) (ca:Nat) (pb:Option Addr) (cb:Nat) (w:World) (hpa:TAt 62 w pa a.t) (hpb:TAt 62 w pb b.t) (he:Env w):Calls Tryz.prog 38 #[FV a pa ca,FV b pb cb] w (FRes (combF 1 (-1) a b) w):=by
 have hB:Below w.heap.size w w:=Below.refl _ _
 have HPa:=Lib.hid hpa
 have HPb:=Lib.hid hpb
 have M1:=fun W (H:Env W)=>awhole (n:=1) (by decide) whole1 W H
 have M2:=fun W (H:Env W)=>awhole (n:=(-1)) (by decide) wholeM W H
 have MC:=fun W (h1:TAt 62 W pa a.t) (h2:TAt 62 W pb b.t) (H:Env W)=>FRes.say (acombine h oa ob da db pa ca pb cb W h1 h2 H)
 generalize combF 1 (-1) a b=G at *
 unfold FRes
 unfold FV at *
 unfold QIs at M1 M2
 unfold Q at *
 generalize (-1:Rat)=om at *
 generalize (1:Rat)=o1 at *
 clear hpa hpb h oa ob da db
 go_enter Tryz.func38, Tryz.ntmps38
 go_wp2_with fail
 have d0_o:w.heap.size≤w.heap.size+1+1:=by have:=hB.size;omega
 have sB:=hB.size
 refine wp_cut (fun X=>Below w.heap.size w X∧Row X w.heap.size (.cells #[.string (S a.c.num),.string (S (a.c.den:Int)),.slice pa a.t.length ca,.string (S a.r.num),.string (S (a.r.den:Int))] 58)∧Row X (w.heap.size+1) (.cells #[.string (S b.c.num),.string (S (b.c.den:Int)),.slice pb b.t.length cb,.string (S b.r.num),.string (S (b.r.den:Int))] 58)∧Row X (w.heap.size+1+1) (.cells #[.string ⟨#[]⟩,.string ⟨#[]⟩,.slice none 0 0,.string ⟨#[]⟩,.string ⟨#[]⟩] 58)) ⟨BW,RW8,RW8,RW8⟩ ?_
 clear hB sB
 rintro V1 ⟨hB,ra,rb,ro⟩
 have sa:=RF5 ra
 have sb:=RF5 rb
 have so:=RFz5 ro
 refine wp_region_late 7 [6] [.val (.agg #[.string (S a.c.num),.string (S (a.c.den:Int)),.slice pa a.t.length ca,.string (S a.r.num),.string (S (a.r.den:Int))]),.val (.agg #[.string (S b.c.num),.string (S (b.c.den:Int)),.slice pb b.t.length cb,.string (S b.r.num),.string (S (b.r.den:Int))]),.val (.agg #[.string (S o1.num),.string (S (o1.den:Int))]),.val (.agg #[.string (S om.num),.string (S (om.den:Int))]),.say (SayFT G),.say (SayF G),.val (.int .i64 0)] [] (by kernel_rfl) (by kernel_rfl) (by kernel_rfl) rfl ⟨SayFT.mono _,⟨SayF.mono _,trivial⟩⟩ (allItems.cons (qi1 fun X h=>RF5 (Row.below ra h)) (allItems.cons (qi1 fun X h=>RF5 (Row.below rb h)) (allItems.cons (qi2 fun X h=>M1 X (he.below (hB.trans (h.mono hB.size)))) (allItems.cons (qi2 fun X h=>M2 X (he.below (hB.trans (h.mono hB.size)))) (allItems.cons (qi3 fun X h=>MC X (UAt.below HPa.out (hB.trans (h.mono hB.size))) (UAt.below HPb.out (hB.trans (h.mono hB.size))) (he.below (hB.trans (h.mono hB.size)))) (allItems.cons (by intro ρ X qX qc qg qf qt qd;simp [depsSay,itemSp,QItem.sp,Region.binds] at qd;obtain ⟨p,c,e,h1⟩:=qd;simp [Region.wanted,yieldedBy,quietly,QItem.sp,execOp,go_sem,foreign,qc,qt,qf,Below.refl,e];exact ⟨p,c,rfl,h1⟩) (allItems.cons (qId' (by intro ρ X qX qc qg qf qt qd;simp [depsSay,itemSp,QItem.sp,Region.binds] at qd;obtain ⟨p,c,e,h1⟩:=qd;simp [Region.wanted,yieldedBy,quietly,QItem.sp,execOp,go_sem,foreign,qc,qt,qf,Below.refl,e])) trivial))))))) ?_
 rintro W h1
 have stp:=St3 hB h1 ra rb ro;clear hB h1 ra sa rb sb ro so
 obtain ⟨hB,ra,rb,ro⟩:=stp
 have sa:=RF5 ra
 have sb:=RF5 rb
 have so:=RFz5 ro
 simp only [setItems,List.setIfInBounds_toArray,List.set_cons_succ,List.set_cons_zero,List.take_succ_cons,List.take_zero,List.drop_succ_cons,List.drop_zero]
 rintro _ -
 rintro _ ⟨pg,cg,rfl,hT⟩
 intro _
 go_wp2_with fail
 unfold normalQ
 go_wp2_with fail
 have sB:=hB.size
 refine post_cut (fun X=>Below w.heap.size w X∧Row X (w.heap.size+1+1) (.cells #[.string (S G.c.num),.string (S (G.c.den:Int)),.slice pg G.t.length cg,.string (S G.r.num),.string (S (G.r.den:Int))] 58)∧TAt 62 X pg G.t) ⟨BW,RW8,TW⟩ ?_
 clear ra
 clear sa
 clear rb
 clear sb
 clear ro
 clear so
 clear hB sB hT
 rintro V2 ⟨hB,ro,hT⟩
 have so:=RFz5 ro
 refine bodyPost_ret (v := .tuple #[.agg #[.string (S G.c.num),.string (S (G.c.den:Int)),.slice pg G.t.length cg,.string (S G.r.num),.string (S (G.r.den:Int))],.int .i64 0]) ?res rfl ⟨pg,cg,hT,rfl,hB⟩
 case res=>simp [results,Tryz.results38, go_sem,so]
end Go.Proofs.YtnokpldomlmamaaGreatDoor
