/-
 Package affine: At; must; a straight line; where nothing is too large.
-/
import Derived.Test.YtnokpldomlmamaaGreatDoorKAAt
import Derived.Test.YtnokpldomlmamaaGreatDoorKAMul
set_option linter.unusedSimpArgs false
set_option linter.unusedVariables false
set_option maxRecDepth 100000
set_option maxHeartbeats 16000000
namespace Go.Proofs.YtnokpldomlmamaaGreatDoor
open Go Go.RowKit Go.Lib Go.Shelf
attribute [local go_sem] normalQ
theorem amustF (z1 z2 z3 z4:ByteArray) (pz:Option Addr) (nz cz:Nat) (w:World):Calls Tryz.prog 118 #[.agg #[.string z1,.string z2,.slice pz nz cz,.string z3,.string z4],.int .i64 0] w (fun e w'=>e = .returned (.agg #[.string z1,.string z2,.slice pz nz cz,.string z3,.string z4])∧Below w.heap.size w w'):=by
 have hB:Below w.heap.size w w:=Below.refl _ _
 go_enter Tryz.func118, Tryz.ntmps118
 go_wp2_with fail
 have d0_o:w.heap.size≤w.heap.size+1:=by have:=hB.size;omega
 have sB:=hB.size
 refine world_cut (fun X=>Below w.heap.size w X∧Row X w.heap.size (.cells #[.string z1,.string z2,.slice pz nz cz,.string z3,.string z4] 58)∧Row X (w.heap.size+1) (.cells #[.string ⟨#[]⟩,.string ⟨#[]⟩,.slice none 0 0,.string ⟨#[]⟩,.string ⟨#[]⟩] 58)) ⟨BW,RW8,RW8⟩ ?_
 clear hB sB
 rintro V1 ⟨hB,rx,ro⟩
 have sx:=RF5 rx
 have so:=RFz5 ro
 refine (acheck_true _).mono ?_
 rintro e W2 ⟨rfl,h1⟩
 have stp:=St2 hB h1 rx ro;clear hB h1 rx sx ro so
 obtain ⟨hB,rx,ro⟩:=stp
 have sx:=RF5 rx
 have so:=RFz5 ro
 go_wp2_with fail
 have sB:=hB.size
 refine post_cut (fun X=>Below w.heap.size w X∧Row X (w.heap.size+1) (.cells #[.string z1,.string z2,.slice pz nz cz,.string z3,.string z4] 58)) ⟨BW,RW8⟩ ?_
 clear rx
 clear sx
 clear ro
 clear so
 clear hB sB
 rintro V3 ⟨hB,ro⟩
 have so:=RFz5 ro
 refine bodyPost_ret (v := .agg #[.string z1,.string z2,.slice pz nz cz,.string z3,.string z4]) ?res rfl ⟨rfl,hB⟩
 case res=>simp [results,Tryz.results118, go_sem,so]
theorem amustI (a:Iv) (w:World):Calls Tryz.prog 117 #[I a,.int .i64 0] w (IvIs a w):=by
 have hB:Below w.heap.size w w:=Below.refl _ _
 unfold IvIs I
 go_enter Tryz.func117, Tryz.ntmps117
 go_wp2_with fail
 have d0_o:w.heap.size≤w.heap.size+1:=by have:=hB.size;omega
 have sB:=hB.size
 refine world_cut (fun X=>Below w.heap.size w X∧Row X w.heap.size (.cells #[.string (S a.lo.num),.string (S (a.lo.den:Int)),.string (S a.hi.num),.string (S (a.hi.den:Int))] 30)∧Row X (w.heap.size+1) (.cells #[.string ⟨#[]⟩,.string ⟨#[]⟩,.string ⟨#[]⟩,.string ⟨#[]⟩] 30)) ⟨BW,RW8,RW8⟩ ?_
 clear hB sB
 rintro V1 ⟨hB,rx,ro⟩
 have sx:=RF4 rx
 have so:=RFz4 ro
 refine (acheck_true _).mono ?_
 rintro e W2 ⟨rfl,h1⟩
 have stp:=St2 hB h1 rx ro;clear hB h1 rx sx ro so
 obtain ⟨hB,rx,ro⟩:=stp
 have sx:=RF4 rx
 have so:=RFz4 ro
 go_wp2_with fail
 have sB:=hB.size
 refine post_cut (fun X=>Below w.heap.size w X∧Row X (w.heap.size+1) (.cells #[.string (S a.lo.num),.string (S (a.lo.den:Int)),.string (S a.hi.num),.string (S (a.hi.den:Int))] 30)) ⟨BW,RW8⟩ ?_
 clear rx
 clear sx
 clear ro
 clear so
 clear hB sB
 rintro V3 ⟨hB,ro⟩
 have so:=RFz4 ro
 refine bodyPost_ret (v := .agg #[.string (S a.lo.num),.string (S (a.lo.den:Int)),.string (S a.hi.num),.string (S (a.hi.den:Int))]) ?res rfl ⟨rfl,hB⟩
 case res=>simp [results,Tryz.results117, go_sem,so]
theorem aat {a:Frm} {vs:List Trm} (h:AtF a vs) (hv:ValsOk vs) (oa:a.Ok) (da:FDig 200 a) (pa:Option Addr) (ca:Nat) (pv:Option Addr) (cv:Nat) (w:World) (hpa:TAt 62 w pa a.t) (hpv:TAt 62 w pv vs) (he:Env w):Calls Tryz.prog 31 #[FV a pa ca,.slice pv vs.length cv] w (IvOk (atI a vs) w):=by
 have hB:Below w.heap.size w w:=Below.refl _ _
 have HPa:=Lib.hid hpa
 have HPv:=Lib.hid hpv
 have CF:=fun s W (r:Row W s (.cells #[.string (S a.c.num),.string (S (a.c.den:Int)),.slice pa a.t.length ca,.string (S a.r.num),.string (S (a.r.den:Int))] 58)) (h1:TAt 62 W pa a.t) (H:Env W)=>fcontains1 160 (enters_of Tryz.func160 (by kernel_rfl) rfl) s a pa ca W r (fun X hX=>avbad oa da pa ca X (UAt.below h1 hX) (H.below hX))
 have CR:=fun bv ba W (rv:Row W bv (.cells #[.slice pv vs.length cv] 56)) (ra:Row W ba (.cells #[.string (S a.c.num),.string (S (a.c.den:Int)),.slice pa a.t.length ca,.string (S a.r.num),.string (S (a.r.den:Int))] 58)) (h1:TAt 62 W pa a.t) (h2:TAt 62 W pv vs) (H:Env W)=>aat1 h hv (Nat.le_trans oa.few (by decide)) pa ca pv cv bv ba W rv ra h1 h2 H
 generalize atI a vs=o at *
 unfold IvOk I FV
 clear hpa hpv h hv oa da
 go_enter Tryz.func31, Tryz.ntmps31
 go_wp2_with fail
 have d0_o:w.heap.size≤w.heap.size+1+1:=by have:=hB.size;omega
 have sB:=hB.size
 refine world_cut (fun X=>Below w.heap.size w X∧Row X w.heap.size (.cells #[.string (S a.c.num),.string (S (a.c.den:Int)),.slice pa a.t.length ca,.string (S a.r.num),.string (S (a.r.den:Int))] 58)∧Row X (w.heap.size+1) (.cells #[.slice pv vs.length cv] 56)∧Row X (w.heap.size+1+1) (.cells #[.string ⟨#[]⟩,.string ⟨#[]⟩,.string ⟨#[]⟩,.string ⟨#[]⟩] 30)∧Row X (w.heap.size+1+1+1) (.cells #[.string (S a.c.num),.string (S (a.c.den:Int)),.slice pa a.t.length ca,.string (S a.r.num),.string (S (a.r.den:Int))] 58)) ⟨BW,RW8,RW8,RW8,RW8⟩ ?_
 clear hB sB
 rintro V1 ⟨hB,ra,rv,ro,rb3⟩
 have sa:=RF5 ra
 have sv:=RF1 rv
 have so:=RFz4 ro
 have sb3:=RF5 rb3
 refine (avcompute_ok 88 _ _ _ (fun a=>o=a) _ (enters_of Tryz.func88 (by kernel_rfl) rfl) (fun X h=>CF _ _ (Row.below rb3 h) (UAt.below HPa.out (hB.trans (h.mono hB.size))) (he.below (hB.trans (h.mono hB.size)))) (fun X h=>CR _ _ _ (Row.below rv h) (Row.below ra h) (UAt.below HPa.out (hB.trans (h.mono hB.size))) (UAt.below HPv.out (hB.trans (h.mono hB.size))) (he.below (hB.trans (h.mono hB.size))))).mono ?_
 rintro e W2 ⟨_,rfl,rfl,h1⟩
 have stp:=St4 hB h1 ra rv ro rb3;clear hB h1 ra sa rv sv ro so rb3 sb3
 obtain ⟨hB,ra,rv,ro,rb3⟩:=stp
 have sa:=RF5 ra
 have sv:=RF1 rv
 have so:=RFz4 ro
 have sb3:=RF5 rb3
 unfold I
 go_wp2_with fail
 have sB:=hB.size
 refine post_cut (fun X=>Below w.heap.size w X∧Row X (w.heap.size+1+1) (.cells #[.string (S o.lo.num),.string (S (o.lo.den:Int)),.string (S o.hi.num),.string (S (o.hi.den:Int))] 30)) ⟨BW,RW8⟩ ?_
 clear ra
 clear sa
 clear rv
 clear sv
 clear ro
 clear so
 clear rb3
 clear sb3
 clear hB sB
 rintro V3 ⟨hB,ro⟩
 have so:=RFz4 ro
 refine bodyPost_ret (v := .tuple #[.agg #[.string (S o.lo.num),.string (S (o.lo.den:Int)),.string (S o.hi.num),.string (S (o.hi.den:Int))],.int .i64 0]) ?res rfl ⟨rfl,hB⟩
 case res=>simp [results,Tryz.results31, go_sem,so]
/-- What becomes of a form by a straight line, and one parallel to it. -/
def lineF (s u v:Rat) (a:Frm):Frm:=⟨(combF s 0 a (constF 0)).c+(u+v) / 2,(combF s 0 a (constF 0)).t,(combF s 0 a (constF 0)).r+(v - u) / 2⟩
structure LineF (s u v:Rat) (a:Frm):Prop where
 sc:CombF s 0 a (constF 0)
 uv:AF u v
 d1:DF (u+v) 2
 c:AF (combF s 0 a (constF 0)).c ((u+v) / 2)
 vu:SF v u
 d2:DF (v - u) 2
 r:AF (combF s 0 a (constF 0)).r ((v - u) / 2)
theorem whole2:Rat.divInt 2 1=2:=by decide +kernel
theorem whole4:Rat.divInt 4 1=4:=by decide +kernel
theorem aline {s u v:Rat} {a:Frm} (h:LineF s u v a) (oa:a.Ok) (da:FDig 200 a) (pa:Option Addr) (ca:Nat) (w:World) (hpa:TAt 62 w pa a.t) (he:Env w):Calls Tryz.prog 120 #[.agg #[.string (S s.num),.string (S (s.den:Int)),.string (S u.num),.string (S (u.den:Int)),.string (S v.num),.string (S (v.den:Int))],FV a pa ca] w (FIs (lineF s u v a) w):=by
 have hB:Below w.heap.size w w:=Below.refl _ _
 have HPa:=Lib.hid hpa
 have FN:=fnum
 have MC:=fun W (h1:TAt 62 W pa a.t) (H:Env W)=>ascale h.sc oa da pa ca W h1 H
 have M1:=fun W (H:Env W)=>nadd h.uv W H
 have M2:=fun W (H:Env W)=>awhole (n:=2) (by decide) whole2 W H
 have M3:=fun W (H:Env W)=>ndiv h.d1 W H
 have M4:=fun W (H:Env W)=>nadd h.c W H
 have M5:=fun W (H:Env W)=>nsub h.vu W H
 have M6:=fun W (H:Env W)=>ndiv h.d2 W H
 have M7:=fun W (H:Env W)=>nadd h.r W H
 unfold lineF FIs
 generalize combF s 0 a (constF 0)=G at *
 unfold FRes at MC
 unfold FV at *
 unfold QIs at *
 generalize G.c+(u+v) / 2=c2 at *
 generalize G.r+(v - u) / 2=r2 at *
 generalize (u+v) / 2=x2 at *
 generalize (v - u) / 2=y2 at *
 generalize u+v=x1 at *
 generalize v - u=y1 at *
 unfold Q at *
 generalize (2:Rat)=two at *
 clear hpa h oa da
 go_enter Tryz.func120, Tryz.ntmps120
 go_wp2_with fail
 have d0_o:w.heap.size≤w.heap.size+1+1:=by have:=hB.size;omega
 have sB:=hB.size
 refine world_cut (fun X=>Below w.heap.size w X∧Row X w.heap.size (.cells #[.string (S s.num),.string (S (s.den:Int)),.string (S u.num),.string (S (u.den:Int)),.string (S v.num),.string (S (v.den:Int))] 149)∧Row X (w.heap.size+1+1) (.cells #[.string ⟨#[]⟩,.string ⟨#[]⟩,.slice none 0 0,.string ⟨#[]⟩,.string ⟨#[]⟩] 58)) ⟨BW,RW8,RW8⟩ ?_
 clear hB sB
 rintro V1 ⟨hB,rx,ro⟩
 have sx:=RF6 rx
 have so:=RFz5 ro
 refine (MC _ (UAt.below HPa.out hB) (he.below hB)).mono ?_
 rintro e W2 ⟨pg,cg,hT,rfl,h1⟩
 have stp:=St2 hB h1 rx ro;clear hB h1 rx sx ro so
 obtain ⟨hB,rx,ro⟩:=stp
 have sx:=RF6 rx
 have so:=RFz5 ro
 go_wp2_with fail
 refine (amustF _ _ _ _ _ _ _ _).mono ?_
 rintro e W3 ⟨rfl,h1⟩
 replace hT:=UAt.below hT h1
 have stp:=St2 hB h1 rx ro;clear hB h1 rx sx ro so
 obtain ⟨hB,rx,ro⟩:=stp
 have sx:=RF6 rx
 have so:=RFz5 ro
 go_wp2_with fail
 have dx_t:w.heap.size<W3.heap.size:=by omega
 have do_t:w.heap.size+1+1<W3.heap.size:=by omega
 have d0_t:w.heap.size≤W3.heap.size:=by have:=hB.size;omega
 have sB:=hB.size
 refine wp_cut (fun X=>Below w.heap.size w X∧Row X w.heap.size (.cells #[.string (S s.num),.string (S (s.den:Int)),.string (S u.num),.string (S (u.den:Int)),.string (S v.num),.string (S (v.den:Int))] 149)∧Row X (w.heap.size+1+1) (.cells #[.string ⟨#[]⟩,.string ⟨#[]⟩,.slice none 0 0,.string ⟨#[]⟩,.string ⟨#[]⟩] 58)∧Row X W3.heap.size (.cells #[.string (S G.c.num),.string (S (G.c.den:Int)),.slice pg G.t.length cg,.string (S G.r.num),.string (S (G.r.den:Int))] 58)∧TAt 62 X pg G.t) ⟨BW,RW8,RW8,RW8,TW⟩ ?_
 clear rx
 clear sx
 clear ro
 clear so
 clear hB sB hT
 rintro V4 ⟨hB,rx,ro,rt,hT⟩
 have sx:=RF6 rx
 have so:=RFz5 ro
 have st:=RFz5 rt
 refine wp_region_items 13 [.val (.pointer (some ⟨W3.heap.size,0,none⟩)),.val (.agg #[.string (S G.c.num),.string (S (G.c.den:Int))]),.val (.agg #[.string (S G.c.num),.string (S (G.c.den:Int))]),.val (.pointer (some ⟨w.heap.size,2,none⟩)),.val (.agg #[.string (S u.num),.string (S (u.den:Int))]),.val (.pointer (some ⟨w.heap.size,4,none⟩)),.val (.agg #[.string (S v.num),.string (S (v.den:Int))]),.val (.agg #[.string (S x1.num),.string (S (x1.den:Int))]),.val (.agg #[.string (S two.num),.string (S (two.den:Int))]),.val (.agg #[.string (S x2.num),.string (S (x2.den:Int))]),.val (.agg #[.string (S c2.num),.string (S (c2.den:Int))]),.val (.agg #[.string (S c2.num),.string (S (c2.den:Int))]),.val (.pointer (some ⟨W3.heap.size,0,none⟩))] (by kernel_rfl) (by kernel_rfl) trivial (allItems.cons qi0 (allItems.cons (qi1 fun X h=>RFz5 (Row.below rt h)) (allItems.cons qi0 (allItems.cons qi0 (allItems.cons (qi1 fun X h=>RF6 (Row.below rx h)) (allItems.cons qi0 (allItems.cons (qi1 fun X h=>RF6 (Row.below rx h)) (allItems.cons (qi2 fun X h=>M1 X (he.below (hB.trans (h.mono hB.size)))) (allItems.cons (qi2 fun X h=>M2 X (he.below (hB.trans (h.mono hB.size)))) (allItems.cons (qi2 fun X h=>M3 X (he.below (hB.trans (h.mono hB.size)))) (allItems.cons (qi2 fun X h=>M4 X (he.below (hB.trans (h.mono hB.size)))) (allItems.cons (qif FN) (allItems.cons qi0 trivial))))))))))))) ?_
 rintro W h1
 replace hT:=UAt.below hT h1
 have stp:=St3 hB h1 rx ro rt;clear hB h1 rx sx ro so rt st
 obtain ⟨hB,rx,ro,rt⟩:=stp
 have sx:=RF6 rx
 have so:=RFz5 ro
 have st:=RFz5 rt
 simp only [setItems,List.setIfInBounds_toArray,List.set_cons_succ,List.set_cons_zero,List.take_succ_cons,List.take_zero,List.drop_succ_cons,List.drop_zero]
 go_wp2_with fail
 have sB:=hB.size
 refine wp_cut (fun X=>Below w.heap.size w X∧Row X w.heap.size (.cells #[.string (S s.num),.string (S (s.den:Int)),.string (S u.num),.string (S (u.den:Int)),.string (S v.num),.string (S (v.den:Int))] 149)∧Row X (w.heap.size+1+1) (.cells #[.string ⟨#[]⟩,.string ⟨#[]⟩,.slice none 0 0,.string ⟨#[]⟩,.string ⟨#[]⟩] 58)∧Row X W3.heap.size (.cells #[.string (S c2.num),.string (S (c2.den:Int)),.slice pg G.t.length cg,.string (S G.r.num),.string (S (G.r.den:Int))] 58)∧TAt 62 X pg G.t) ⟨BW,RW8,RW8,RW8,TW⟩ ?_
 clear rx
 clear sx
 clear ro
 clear so
 clear rt
 clear st
 clear hB sB hT
 rintro V5 ⟨hB,rx,ro,rt,hT⟩
 have sx:=RF6 rx
 have so:=RFz5 ro
 have st:=RFz5 rt
 refine wp_region_items 13 [.val (.pointer (some ⟨W3.heap.size,3,none⟩)),.val (.agg #[.string (S G.r.num),.string (S (G.r.den:Int))]),.val (.agg #[.string (S G.r.num),.string (S (G.r.den:Int))]),.val (.pointer (some ⟨w.heap.size,4,none⟩)),.val (.agg #[.string (S v.num),.string (S (v.den:Int))]),.val (.pointer (some ⟨w.heap.size,2,none⟩)),.val (.agg #[.string (S u.num),.string (S (u.den:Int))]),.val (.agg #[.string (S y1.num),.string (S (y1.den:Int))]),.val (.agg #[.string (S two.num),.string (S (two.den:Int))]),.val (.agg #[.string (S y2.num),.string (S (y2.den:Int))]),.val (.agg #[.string (S r2.num),.string (S (r2.den:Int))]),.val (.agg #[.string (S r2.num),.string (S (r2.den:Int))]),.val (.pointer (some ⟨W3.heap.size,3,none⟩))] (by kernel_rfl) (by kernel_rfl) trivial (allItems.cons qi0 (allItems.cons (qi1 fun X h=>RFz5 (Row.below rt h)) (allItems.cons qi0 (allItems.cons qi0 (allItems.cons (qi1 fun X h=>RF6 (Row.below rx h)) (allItems.cons qi0 (allItems.cons (qi1 fun X h=>RF6 (Row.below rx h)) (allItems.cons (qi2 fun X h=>M5 X (he.below (hB.trans (h.mono hB.size)))) (allItems.cons (qi2 fun X h=>M2 X (he.below (hB.trans (h.mono hB.size)))) (allItems.cons (qi2 fun X h=>M6 X (he.below (hB.trans (h.mono hB.size)))) (allItems.cons (qi2 fun X h=>M7 X (he.below (hB.trans (h.mono hB.size)))) (allItems.cons (qif FN) (allItems.cons qi0 trivial))))))))))))) ?_
 rintro W h1
 replace hT:=UAt.below hT h1
 have stp:=St3 hB h1 rx ro rt;clear hB h1 rx sx ro so rt st
 obtain ⟨hB,rx,ro,rt⟩:=stp
 have sx:=RF6 rx
 have so:=RFz5 ro
 have st:=RFz5 rt
 simp only [setItems,List.setIfInBounds_toArray,List.set_cons_succ,List.set_cons_zero,List.take_succ_cons,List.take_zero,List.drop_succ_cons,List.drop_zero]
 go_wp2_with fail
 have sB:=hB.size
 refine post_cut (fun X=>Below w.heap.size w X∧Row X (w.heap.size+1+1) (.cells #[.string (S c2.num),.string (S (c2.den:Int)),.slice pg G.t.length cg,.string (S r2.num),.string (S (r2.den:Int))] 58)∧TAt 62 X pg G.t) ⟨BW,RW8,TW⟩ ?_
 clear rx
 clear sx
 clear ro
 clear so
 clear rt
 clear st
 clear hB sB hT
 rintro V6 ⟨hB,ro,hT⟩
 have so:=RFz5 ro
 refine bodyPost_ret (v := .agg #[.string (S c2.num),.string (S (c2.den:Int)),.slice pg G.t.length cg,.string (S r2.num),.string (S (r2.den:Int))]) ?res rfl ⟨pg,cg,hT,rfl,hB⟩
 case res=>simp [results,Tryz.results120, go_sem,so]
end Go.Proofs.YtnokpldomlmamaaGreatDoor
