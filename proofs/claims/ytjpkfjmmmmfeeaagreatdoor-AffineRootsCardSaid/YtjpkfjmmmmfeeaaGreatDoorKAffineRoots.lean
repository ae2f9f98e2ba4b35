/-
 AffineRoots: the law's walk.
-/
import Derived.Test.YtjpkfjmmmmfeeaaGreatDoorKAFits
import Derived.Test.YtjpkfjmmmmfeeaaGreatDoorKARootX
import Derived.Test.YtjpkfjmmmmfeeaaGreatDoorKASqrtX
import Derived.Test.YtjpkfjmmmmfeeaaGreatDoorKEValid
import Derived.Test.YtjpkfjmmmmfeeaaGreatDoorKExtra0
import Derived.Test.YtjpkfjmmmmfeeaaGreatDoorKExtra1
set_option linter.unusedSimpArgs false
set_option linter.unusedVariables false
set_option maxRecDepth 100000
set_option maxHeartbeats 16000000
namespace Go.Proofs.YtjpkfjmmmmfeeaaGreatDoor
open Go Go.RowKit Go.Lib Go.Shelf
attribute [local go_sem] normalQ
def SayZT (z1 z2 z3 z4:ByteArray) (l:List Trm) (er:Int):QSay:=fun v W=>∃ p c,v = .tuple #[.agg #[.string z1,.string z2,.slice p l.length c,.string z3,.string z4],.int .i64 er]∧TAt 51 W p l
theorem SayZT.mono (z1 z2 z3 z4:ByteArray) (l:List Trm) (er:Int):qMono (SayZT z1 z2 z3 z4 l er):=fun v W W' ⟨p,c,e,h⟩ hB=>⟨p,c,e,UAt.below h hB⟩
def SayZ (z1 z2 z3 z4:ByteArray) (l:List Trm):QSay:=fun v W=>∃ p c,v = .agg #[.string z1,.string z2,.slice p l.length c,.string z3,.string z4]∧TAt 51 W p l
theorem SayZ.mono (z1 z2 z3 z4:ByteArray) (l:List Trm):qMono (SayZ z1 z2 z3 z4 l):=fun v W W' ⟨p,c,e,h⟩ hB=>⟨p,c,e,UAt.below h hB⟩
def SqRes (z1 z2 z3 z4:ByteArray) (l:List Trm) (er:Int) (w:World) (e:Ending) (w':World):Prop:=∃ v,e = .returned v∧SayZT z1 z2 z3 z4 l er v w'∧Below w.heap.size w w'
theorem roots0 {a0 a1:Addr} {A:Frm} {VS l:List Trm} {z1 z2 z3 z4:ByteArray} {nq sqr l1 l2 m1 two m2 mv c2 r1 r2 z0 h1 h2:Rat} {k pp gg er:Int} {c0 r0 fa fb:Int} {x z:Nat→Int} (R2:RatioIs 2 1 two) (R0:RatioIs 0 1 z0) (SE:∀ (W:World),Env W→Calls Tryz.prog 10 #[] W (BoolOk true W)) (MA:∀ (W:World),Calls Tryz.prog 11 #[.agg #[.int .i64 c0,.int .i64 r0,.int .i64 (x 0),.int .i64 (x 1),.int .i64 (x 2),.int .i64 (x 3),.int .i64 (x 4),.int .i64 (x 5)]] W (FIs A W)) (VA:∀ (W:World),Calls Tryz.prog 29 #[.agg #[.int .i64 (z 0),.int .i64 (z 1),.int .i64 (z 2),.int .i64 (z 3),.int .i64 (z 4),.int .i64 (z 5)]] W (ListCap 51 VS W)) (PK:∀ (W:World),Calls Tryz.prog 13 #[.int .i64 fa,.int .i64 60] W (IntIs k W)) (RB:∀ (W:World),Calls Tryz.prog 12 #[.int .i64 k,.int .i64 4] W (QIs nq W)) (M1:∀ (W:World),Env W→Calls Tryz.prog 18 #[Q nq,Q nq] W (QOk sqr W)) (AT:∀ (W:World) (p:Option Addr) (c:Nat) (q:Option Addr) (d:Nat),TAt 51 W p A.t→TAt 51 W q VS→Env W→Calls Tryz.prog 27 #[FV A p c,.slice q VS.length d] W (IvQ l1 l2 W)) (A1:∀ (W:World),Env W→Calls Tryz.prog 20 #[Q l1,Q l2] W (QOk m1 W)) (D1:∀ (W:World),Env W→Calls Tryz.prog 30 #[Q m1,Q two] W (QOk m2 W)) (S1:∀ (W:World),Env W→Calls Tryz.prog 31 #[Q sqr,Q m2] W (QOk mv W)) (A2:∀ (W:World),Env W→Calls Tryz.prog 20 #[Q A.c,Q mv] W (QOk c2 W)) (RG:∀ (W:World) (p:Option Addr) (c:Nat),TAt 51 W p A.t→Env W→Calls Tryz.prog 26 #[.agg #[.string (S c2.num),.string (S (c2.den:Int)),.slice p A.t.length c,.string (S A.r.num),.string (S (A.r.den:Int))]] W (IvQ r1 r2 W)) (PP:∀ (W:World),Calls Tryz.prog 13 #[.int .i64 fb,.int .i64 13] W (IntIs pp W)) (C1:∀ (W:World),Env W→Calls Tryz.prog 25 #[Q r1,Q z0] W (CmpOk gg W)) (SQ:∀ (W:World) (p:Option Addr) (c:Nat),TAt 51 W p A.t→EnvA a0 a1 W→Calls Tryz.prog 32 #[.agg #[.string (S c2.num),.string (S (c2.den:Int)),.slice p A.t.length c,.string (S A.r.num),.string (S (A.r.den:Int))],.int .i64 pp] W (SqRes z1 z2 z3 z4 l er W)) (hc:gg<0∧er=80∨0≤gg∧er=0∧( ∀ (W:World) (p:Option Addr) (c:Nat) (q:Option Addr) (d:Nat),TAt 51 W p l→TAt 51 W q VS→Env W→Calls Tryz.prog 27 #[.agg #[.string z1,.string z2,.slice p l.length c,.string z3,.string z4],.slice q VS.length d] W (IvQ h1 h2 W))∧( ∀ (W:World),Env W→Calls Tryz.prog 33 #[.agg #[.string (S h1.num),.string (S (h1.den:Int)),.string (S h2.num),.string (S (h2.den:Int))],Q nq] W (BoolOk true W))) (w:World) (he:EnvA a0 a1 w):Calls Tryz.prog 7 #[.agg #[.int .i64 c0,.int .i64 r0,.int .i64 (x 0),.int .i64 (x 1),.int .i64 (x 2),.int .i64 (x 3),.int .i64 (x 4),.int .i64 (x 5)],.agg #[.int .i64 (z 0),.int .i64 (z 1),.int .i64 (z 2),.int .i64 (z 3),.int .i64 (z 4),.int .i64 (z 5)],.int .i64 fa,.int .i64 fb] w (BoolOk true w):=by
 have hB:Below w.heap.size w w:=Below.refl _ _
 unfold RatioIs QIs Q at R2 R0
 unfold QIs Q at RB
 unfold BoolOk at SE hc
 unfold BoolOk
 unfold FIs at MA
 unfold ListCap at VA
 unfold IntIs at PK PP
 unfold IvQ at AT RG hc
 unfold QOk Q at M1 A1 D1 S1 A2
 unfold CmpOk Q at C1
 unfold Q at hc
 unfold SqRes at SQ
 unfold FV at MA AT
 have HC:=Lib.hid hc
 clear hc
 go_enter Tryz.func7, Tryz.ntmps7
 go_wp2_with fail
 have sB:=hB.size
 refine world_cut (fun X=>Below w.heap.size w X∧Row X w.heap.size (.cells #[.int .i64 c0,.int .i64 r0,.int .i64 (x 0),.int .i64 (x 1),.int .i64 (x 2),.int .i64 (x 3),.int .i64 (x 4),.int .i64 (x 5)] 24)∧Row X (w.heap.size+1) (.cells #[.int .i64 (z 0),.int .i64 (z 1),.int .i64 (z 2),.int .i64 (z 3),.int .i64 (z 4),.int .i64 (z 5)] 22)) ⟨BW,RW8,RW8⟩ ?_
 clear hB sB
 rintro V1 ⟨hB,rx,rz⟩
 have Fx:∀ X,Row X w.heap.size (.cells #[.int .i64 c0,.int .i64 r0,.int .i64 (x 0),.int .i64 (x 1),.int .i64 (x 2),.int .i64 (x 3),.int .i64 (x 4),.int .i64 (x 5)] 24)→(w.heap.size<X.heap.size∧X.cell? ⟨w.heap.size,0,none⟩=some (.int .i64 c0)∧X.cell? ⟨w.heap.size,1,none⟩=some (.int .i64 r0)∧X.cell? ⟨w.heap.size,2,none⟩=some (.int .i64 (x 0))∧X.cell? ⟨w.heap.size,3,none⟩=some (.int .i64 (x 1))∧X.cell? ⟨w.heap.size,4,none⟩=some (.int .i64 (x 2))∧X.cell? ⟨w.heap.size,5,none⟩=some (.int .i64 (x 3))∧X.cell? ⟨w.heap.size,6,none⟩=some (.int .i64 (x 4))∧X.cell? ⟨w.heap.size,7,none⟩=some (.int .i64 (x 5))):=fun X h=>⟨h.1,Row.cell_at h 0 rfl,Row.cell_at h 1 rfl,Row.cell_at h 2 rfl,Row.cell_at h 3 rfl,Row.cell_at h 4 rfl,Row.cell_at h 5 rfl,Row.cell_at h 6 rfl,Row.cell_at h 7 rfl⟩
 obtain ⟨sx,cx0,cx1,cx2,cx3,cx4,cx5,cx6,cx7⟩:=Fx _ rx
 obtain ⟨sz,cz0,cz1,cz2,cz3,cz4,cz5⟩:=RF6 rz
 refine (SE _ (he.env.below hB)).mono ?_
 rintro e W2 ⟨rfl,h1⟩
 have stp:=St2 hB h1 rx rz;clear hB h1 rx sx cx0 cx1 cx2 cx3 cx4 cx5 cx6 cx7 rz sz cz0 cz1 cz2 cz3 cz4 cz5
 obtain ⟨hB,rx,rz⟩:=stp
 obtain ⟨sx,cx0,cx1,cx2,cx3,cx4,cx5,cx6,cx7⟩:=Fx _ rx
 obtain ⟨sz,cz0,cz1,cz2,cz3,cz4,cz5⟩:=RF6 rz
 go_wp2_with fail
 clear rx
 clear sx cx0 cx1 cx2 cx3 cx4 cx5 cx6 cx7
 clear Fx
 refine (MA _).mono ?_
 rintro e W3 ⟨pa,ca,hA,rfl,h1⟩
 have stp:=St1 hB h1 rz;clear hB h1 rz sz cz0 cz1 cz2 cz3 cz4 cz5
 obtain ⟨hB,rz⟩:=stp
 obtain ⟨sz,cz0,cz1,cz2,cz3,cz4,cz5⟩:=RF6 rz
 go_wp2_with fail
 have d0_a:w.heap.size≤W3.heap.size:=by have:=hB.size;omega
 have sB:=hB.size
 refine world_cut (fun X=>Below w.heap.size w X∧Row X W3.heap.size (.cells #[.string (S A.c.num),.string (S (A.c.den:Int)),.slice pa A.t.length ca,.string (S A.r.num),.string (S (A.r.den:Int))] 30)∧TAt 51 X pa A.t) ⟨BW,RW8,TW⟩ ?_
 clear rz
 clear sz cz0 cz1 cz2 cz3 cz4 cz5
 clear hB sB hA
 rintro V4 ⟨hB,ra,hA⟩
 obtain ⟨sa,ca0,ca1,ca2,ca3,ca4,fa0,fa1,fa2,fa3,fa4⟩:=RFz5 ra
 refine (VA _).mono ?_
 rintro e W5 ⟨pv,cv,hV,_,rfl,h1⟩
 replace hA:=UAt.below hA h1
 have stp:=St1 hB h1 ra;clear hB h1 ra sa ca0 ca1 ca2 ca3 ca4 fa0 fa1 fa2 fa3 fa4
 obtain ⟨hB,ra⟩:=stp
 obtain ⟨sa,ca0,ca1,ca2,ca3,ca4,fa0,fa1,fa2,fa3,fa4⟩:=RFz5 ra
 go_wp2_with fail
 refine (PK _).mono ?_
 rintro e W6 ⟨rfl,h1⟩
 replace hA:=UAt.below hA h1
 replace hV:=UAt.below hV h1
 have stp:=St1 hB h1 ra;clear hB h1 ra sa ca0 ca1 ca2 ca3 ca4 fa0 fa1 fa2 fa3 fa4
 obtain ⟨hB,ra⟩:=stp
 obtain ⟨sa,ca0,ca1,ca2,ca3,ca4,fa0,fa1,fa2,fa3,fa4⟩:=RFz5 ra
 go_wp2_with fail
 refine (RB _).mono ?_
 rintro e W7 ⟨rfl,h1⟩
 replace hA:=UAt.below hA h1
 replace hV:=UAt.below hV h1
 have stp:=St1 hB h1 ra;clear hB h1 ra sa ca0 ca1 ca2 ca3 ca4 fa0 fa1 fa2 fa3 fa4
 obtain ⟨hB,ra⟩:=stp
 obtain ⟨sa,ca0,ca1,ca2,ca3,ca4,fa0,fa1,fa2,fa3,fa4⟩:=RFz5 ra
 go_wp2_with fail
 have da_k:W3.heap.size<W7.heap.size:=by omega
 have sB:=hB.size
 refine world_cut (fun X=>Below w.heap.size w X∧Row X W3.heap.size (.cells #[.string (S A.c.num),.string (S (A.c.den:Int)),.slice pa A.t.length ca,.string (S A.r.num),.string (S (A.r.den:Int))] 30)∧Row X W7.heap.size (.cells #[.string (S nq.num),.string (S (nq.den:Int))] 27)∧TAt 51 X pa A.t∧TAt 51 X pv VS) ⟨BW,RW8,RW8,TW,TW⟩ ?_
 clear ra
 clear sa ca0 ca1 ca2 ca3 ca4 fa0 fa1 fa2 fa3 fa4
 clear hB sB hA hV
 rintro V8 ⟨hB,ra,rk,hA,hV⟩
 obtain ⟨sa,ca0,ca1,ca2,ca3,ca4,fa0,fa1,fa2,fa3,fa4⟩:=RFz5 ra
 obtain ⟨sk,ck0,ck1⟩:=RF2 rk
 refine (M1 _ (he.env.below hB)).mono ?_
 rintro e W9 ⟨rfl,h1⟩
 replace hA:=UAt.below hA h1
 replace hV:=UAt.below hV h1
 have stp:=St2 hB h1 ra rk;clear hB h1 ra sa ca0 ca1 ca2 ca3 ca4 fa0 fa1 fa2 fa3 fa4 rk sk ck0 ck1
 obtain ⟨hB,ra,rk⟩:=stp
 obtain ⟨sa,ca0,ca1,ca2,ca3,ca4,fa0,fa1,fa2,fa3,fa4⟩:=RFz5 ra
 obtain ⟨sk,ck0,ck1⟩:=RF2 rk
 go_wp2_with fail
 have da_t:W3.heap.size<W9.heap.size:=by omega
 have sB:=hB.size
 refine world_cut (fun X=>Below w.heap.size w X∧Row X W3.heap.size (.cells #[.string (S A.c.num),.string (S (A.c.den:Int)),.slice pa A.t.length ca,.string (S A.r.num),.string (S (A.r.den:Int))] 30)∧Row X W7.heap.size (.cells #[.string (S nq.num),.string (S (nq.den:Int))] 27)∧Row X W9.heap.size (.cells #[.string (S sqr.num),.string (S (sqr.den:Int))] 27)∧TAt 51 X pa A.t∧TAt 51 X pv VS) ⟨BW,RW8,RW8,RW8,TW,TW⟩ ?_
 clear ra
 clear sa ca0 ca1 ca2 ca3 ca4 fa0 fa1 fa2 fa3 fa4
 clear rk
 clear sk ck0 ck1
 clear hB sB hA hV
 rintro V10 ⟨hB,ra,rk,rt,hA,hV⟩
 obtain ⟨sa,ca0,ca1,ca2,ca3,ca4,fa0,fa1,fa2,fa3,fa4⟩:=RFz5 ra
 obtain ⟨sk,ck0,ck1⟩:=RF2 rk
 obtain ⟨st,ct0,ct1⟩:=RF2 rt
 refine (AT _ _ _ _ _ hA hV (he.env.below hB)).mono ?_
 rintro e W11 ⟨rfl,h1⟩
 replace hA:=UAt.below hA h1
 replace hV:=UAt.below hV h1
 have stp:=St3 hB h1 ra rk rt;clear hB h1 ra sa ca0 ca1 ca2 ca3 ca4 fa0 fa1 fa2 fa3 fa4 rk sk ck0 ck1 rt st ct0 ct1
 obtain ⟨hB,ra,rk,rt⟩:=stp
 obtain ⟨sa,ca0,ca1,ca2,ca3,ca4,fa0,fa1,fa2,fa3,fa4⟩:=RFz5 ra
 obtain ⟨sk,ck0,ck1⟩:=RF2 rk
 obtain ⟨st,ct0,ct1⟩:=RF2 rt
 go_wp2_with fail
 have da_e:W3.heap.size<W11.heap.size:=by omega
 have sB:=hB.size
 refine world_cut (fun X=>Below w.heap.size w X∧Row X W3.heap.size (.cells #[.string (S A.c.num),.string (S (A.c.den:Int)),.slice pa A.t.length ca,.string (S A.r.num),.string (S (A.r.den:Int))] 30)∧Row X W7.heap.size (.cells #[.string (S nq.num),.string (S (nq.den:Int))] 27)∧Row X W9.heap.size (.cells #[.string (S sqr.num),.string (S (sqr.den:Int))] 27)∧Row X W11.heap.size (.cells #[.string (S l1.num),.string (S (l1.den:Int)),.string (S l2.num),.string (S (l2.den:Int))] 53)∧TAt 51 X pa A.t∧TAt 51 X pv VS) ⟨BW,RW8,RW8,RW8,RW8,TW,TW⟩ ?_
 clear ra
 clear sa ca0 ca1 ca2 ca3 ca4 fa0 fa1 fa2 fa3 fa4
 clear rk
 clear sk ck0 ck1
 clear rt
 clear st ct0 ct1
 clear hB sB hA hV
 rintro V12 ⟨hB,ra,rk,rt,re,hA,hV⟩
 obtain ⟨sa,ca0,ca1,ca2,ca3,ca4,fa0,fa1,fa2,fa3,fa4⟩:=RFz5 ra
 obtain ⟨sk,ck0,ck1⟩:=RF2 rk
 obtain ⟨st,ct0,ct1⟩:=RF2 rt
 obtain ⟨se,ce0,ce1,ce2,ce3⟩:=RF4 re
 refine (A1 _ (he.env.below hB)).mono ?_
 rintro e W13 ⟨rfl,h1⟩
 replace hA:=UAt.below hA h1
 replace hV:=UAt.below hV h1
 have stp:=St4 hB h1 ra rk rt re;clear hB h1 ra sa ca0 ca1 ca2 ca3 ca4 fa0 fa1 fa2 fa3 fa4 rk sk ck0 ck1 rt st ct0 ct1 re se ce0 ce1 ce2 ce3
 obtain ⟨hB,ra,rk,rt,re⟩:=stp
 obtain ⟨sa,ca0,ca1,ca2,ca3,ca4,fa0,fa1,fa2,fa3,fa4⟩:=RFz5 ra
 obtain ⟨sk,ck0,ck1⟩:=RF2 rk
 obtain ⟨st,ct0,ct1⟩:=RF2 rt
 obtain ⟨se,ce0,ce1,ce2,ce3⟩:=RF4 re
 go_wp2_with fail
 have da_m:W3.heap.size<W13.heap.size:=by omega
 have dk_m:W7.heap.size<W13.heap.size:=by omega
 have dt_m:W9.heap.size<W13.heap.size:=by omega
 have de_m:W11.heap.size<W13.heap.size:=by omega
 have d0_m:w.heap.size≤W13.heap.size:=by have:=hB.size;omega
 have sB:=hB.size
 refine wp_cut (fun X=>Below w.heap.size w X∧Row X W3.heap.size (.cells #[.string (S A.c.num),.string (S (A.c.den:Int)),.slice pa A.t.length ca,.string (S A.r.num),.string (S (A.r.den:Int))] 30)∧Row X W7.heap.size (.cells #[.string (S nq.num),.string (S (nq.den:Int))] 27)∧Row X W9.heap.size (.cells #[.string (S sqr.num),.string (S (sqr.den:Int))] 27)∧Row X W11.heap.size (.cells #[.string (S l1.num),.string (S (l1.den:Int)),.string (S l2.num),.string (S (l2.den:Int))] 53)∧Row X W13.heap.size (.cells #[.string (S m1.num),.string (S (m1.den:Int))] 27)∧TAt 51 X pa A.t∧TAt 51 X pv VS) ⟨BW,RW8,RW8,RW8,RW8,RW8,TW,TW⟩ ?_
 clear ra
 clear sa ca0 ca1 ca2 ca3 ca4 fa0 fa1 fa2 fa3 fa4
 clear rk
 clear sk ck0 ck1
 clear rt
 clear st ct0 ct1
 clear re
 clear se ce0 ce1 ce2 ce3
 clear hB sB hA hV
 rintro V14 ⟨hB,ra,rk,rt,re,rm,hA,hV⟩
 obtain ⟨sa,ca0,ca1,ca2,ca3,ca4,fa0,fa1,fa2,fa3,fa4⟩:=RFz5 ra
 obtain ⟨sk,ck0,ck1⟩:=RF2 rk
 obtain ⟨st,ct0,ct1⟩:=RF2 rt
 obtain ⟨se,ce0,ce1,ce2,ce3⟩:=RF4 re
 obtain ⟨sm,cm0,cm1,fm0,fm1⟩:=RFz2 rm
 refine wp_region_late 6 [5] [.val (.agg #[.string (S m1.num),.string (S (m1.den:Int))]),.val (.agg #[.string (S two.num),.string (S (two.den:Int))]),.val (.tuple #[.agg #[.string (S m2.num),.string (S (m2.den:Int))],.int .i64 0]),.val (.tuple #[.agg #[.string (S m2.num),.string (S (m2.den:Int))],.int .i64 0]),.val (.agg #[.string (S m2.num),.string (S (m2.den:Int))]),.val (.int .i64 0)] [] (by kernel_rfl) (by kernel_rfl) (by kernel_rfl) rfl trivial (allItems.cons (qi1 fun X h=>RFz2 (Row.below rm h)) (allItems.cons (qi2 fun X h=>R2 X) (allItems.cons (qi2 fun X h=>D1 X (he.env.below (hB.trans (h.mono hB.size)))) (allItems.cons qi0 (allItems.cons qi0 (allItems.cons qi0 trivial)))))) ?_
 rintro W h1
 replace hA:=UAt.below hA h1
 replace hV:=UAt.below hV h1
 have stp:=St5 hB h1 ra rk rt re rm;clear hB h1 ra sa ca0 ca1 ca2 ca3 ca4 fa0 fa1 fa2 fa3 fa4 rk sk ck0 ck1 rt st ct0 ct1 re se ce0 ce1 ce2 ce3 rm sm cm0 cm1 fm0 fm1
 obtain ⟨hB,ra,rk,rt,re,rm⟩:=stp
 obtain ⟨sa,ca0,ca1,ca2,ca3,ca4,fa0,fa1,fa2,fa3,fa4⟩:=RFz5 ra
 obtain ⟨sk,ck0,ck1⟩:=RF2 rk
 obtain ⟨st,ct0,ct1⟩:=RF2 rt
 obtain ⟨se,ce0,ce1,ce2,ce3⟩:=RF4 re
 obtain ⟨sm,cm0,cm1,fm0,fm1⟩:=RFz2 rm
 simp only [setItems,List.setIfInBounds_toArray,List.set_cons_succ,List.set_cons_zero,List.take_succ_cons,List.take_zero,List.drop_succ_cons,List.drop_zero]
 intro _
 go_wp2_with fail
 unfold normalQ
 go_wp2_with fail
 have sB:=hB.size
 refine world_cut (fun X=>Below w.heap.size w X∧Row X W3.heap.size (.cells #[.string (S A.c.num),.string (S (A.c.den:Int)),.slice pa A.t.length ca,.string (S A.r.num),.string (S (A.r.den:Int))] 30)∧Row X W7.heap.size (.cells #[.string (S nq.num),.string (S (nq.den:Int))] 27)∧Row X W9.heap.size (.cells #[.string (S sqr.num),.string (S (sqr.den:Int))] 27)∧Row X W11.heap.size (.cells #[.string (S l1.num),.string (S (l1.den:Int)),.string (S l2.num),.string (S (l2.den:Int))] 53)∧Row X W13.heap.size (.cells #[.string (S m2.num),.string (S (m2.den:Int))] 27)∧TAt 51 X pa A.t∧TAt 51 X pv VS) ⟨BW,RW8,RW8,RW8,RW8,RW8,TW,TW⟩ ?_
 clear ra
 clear sa ca0 ca1 ca2 ca3 ca4 fa0 fa1 fa2 fa3 fa4
 clear rk
 clear sk ck0 ck1
 clear rt
 clear st ct0 ct1
 clear re
 clear se ce0 ce1 ce2 ce3
 clear rm
 clear sm cm0 cm1 fm0 fm1
 clear hB sB hA hV
 rintro V15 ⟨hB,ra,rk,rt,re,rm,hA,hV⟩
 obtain ⟨sa,ca0,ca1,ca2,ca3,ca4,fa0,fa1,fa2,fa3,fa4⟩:=RFz5 ra
 obtain ⟨sk,ck0,ck1⟩:=RF2 rk
 obtain ⟨st,ct0,ct1⟩:=RF2 rt
 obtain ⟨se,ce0,ce1,ce2,ce3⟩:=RF4 re
 obtain ⟨sm,cm0,cm1,fm0,fm1⟩:=RFz2 rm
 refine (S1 _ (he.env.below hB)).mono ?_
 rintro e W16 ⟨rfl,h1⟩
 replace hA:=UAt.below hA h1
 replace hV:=UAt.below hV h1
 have stp:=St5 hB h1 ra rk rt re rm;clear hB h1 ra sa ca0 ca1 ca2 ca3 ca4 fa0 fa1 fa2 fa3 fa4 rk sk ck0 ck1 rt st ct0 ct1 re se ce0 ce1 ce2 ce3 rm sm cm0 cm1 fm0 fm1
 obtain ⟨hB,ra,rk,rt,re,rm⟩:=stp
 obtain ⟨sa,ca0,ca1,ca2,ca3,ca4,fa0,fa1,fa2,fa3,fa4⟩:=RFz5 ra
 obtain ⟨sk,ck0,ck1⟩:=RF2 rk
 obtain ⟨st,ct0,ct1⟩:=RF2 rt
 obtain ⟨se,ce0,ce1,ce2,ce3⟩:=RF4 re
 obtain ⟨sm,cm0,cm1,fm0,fm1⟩:=RFz2 rm
 go_wp2_with fail
 have da_d:W3.heap.size<W16.heap.size:=by omega
 have dm_d:W13.heap.size<W16.heap.size:=by omega
 have sB:=hB.size
 refine world_cut (fun X=>Below w.heap.size w X∧Row X W3.heap.size (.cells #[.string (S A.c.num),.string (S (A.c.den:Int)),.slice pa A.t.length ca,.string (S A.r.num),.string (S (A.r.den:Int))] 30)∧Row X W7.heap.size (.cells #[.string (S nq.num),.string (S (nq.den:Int))] 27)∧Row X W9.heap.size (.cells #[.string (S sqr.num),.string (S (sqr.den:Int))] 27)∧Row X W11.heap.size (.cells #[.string (S l1.num),.string (S (l1.den:Int)),.string (S l2.num),.string (S (l2.den:Int))] 53)∧Row X W13.heap.size (.cells #[.string (S m2.num),.string (S (m2.den:Int))] 27)∧Row X W16.heap.size (.cells #[.string (S mv.num),.string (S (mv.den:Int))] 27)∧TAt 51 X pa A.t∧TAt 51 X pv VS) ⟨BW,RW8,RW8,RW8,RW8,RW8,RW8,TW,TW⟩ ?_
 clear ra
 clear sa ca0 ca1 ca2 ca3 ca4 fa0 fa1 fa2 fa3 fa4
 clear rk
 clear sk ck0 ck1
 clear rt
 clear st ct0 ct1
 clear re
 clear se ce0 ce1 ce2 ce3
 clear rm
 clear sm cm0 cm1 fm0 fm1
 clear hB sB hA hV
 rintro V17 ⟨hB,ra,rk,rt,re,rm,rd,hA,hV⟩
 obtain ⟨sa,ca0,ca1,ca2,ca3,ca4,fa0,fa1,fa2,fa3,fa4⟩:=RFz5 ra
 obtain ⟨sk,ck0,ck1⟩:=RF2 rk
 obtain ⟨st,ct0,ct1⟩:=RF2 rt
 obtain ⟨se,ce0,ce1,ce2,ce3⟩:=RF4 re
 obtain ⟨sm,cm0,cm1,fm0,fm1⟩:=RFz2 rm
 obtain ⟨sd,cd0,cd1⟩:=RF2 rd
 refine (A2 _ (he.env.below hB)).mono ?_
 rintro e W18 ⟨rfl,h1⟩
 replace hA:=UAt.below hA h1
 replace hV:=UAt.below hV h1
 have stp:=St6 hB h1 ra rk rt re rm rd;clear hB h1 ra sa ca0 ca1 ca2 ca3 ca4 fa0 fa1 fa2 fa3 fa4 rk sk ck0 ck1 rt st ct0 ct1 re se ce0 ce1 ce2 ce3 rm sm cm0 cm1 fm0 fm1 rd sd cd0 cd1
 obtain ⟨hB,ra,rk,rt,re,rm,rd⟩:=stp
 obtain ⟨sa,ca0,ca1,ca2,ca3,ca4,fa0,fa1,fa2,fa3,fa4⟩:=RFz5 ra
 obtain ⟨sk,ck0,ck1⟩:=RF2 rk
 obtain ⟨st,ct0,ct1⟩:=RF2 rt
 obtain ⟨se,ce0,ce1,ce2,ce3⟩:=RF4 re
 obtain ⟨sm,cm0,cm1,fm0,fm1⟩:=RFz2 rm
 obtain ⟨sd,cd0,cd1⟩:=RF2 rd
 go_wp2_with fail
 have sB:=hB.size
 refine world_cut (fun X=>Below w.heap.size w X∧Row X W3.heap.size (.cells #[.string (S c2.num),.string (S (c2.den:Int)),.slice pa A.t.length ca,.string (S A.r.num),.string (S (A.r.den:Int))] 30)∧Row X W7.heap.size (.cells #[.string (S nq.num),.string (S (nq.den:Int))] 27)∧Row X W9.heap.size (.cells #[.string (S sqr.num),.string (S (sqr.den:Int))] 27)∧Row X W11.heap.size (.cells #[.string (S l1.num),.string (S (l1.den:Int)),.string (S l2.num),.string (S (l2.den:Int))] 53)∧Row X W13.heap.size (.cells #[.string (S m2.num),.string (S (m2.den:Int))] 27)∧Row X W16.heap.size (.cells #[.string (S mv.num),.string (S (mv.den:Int))] 27)∧TAt 51 X pa A.t∧TAt 51 X pv VS) ⟨BW,RW8,RW8,RW8,RW8,RW8,RW8,TW,TW⟩ ?_
 clear ra
 clear sa ca0 ca1 ca2 ca3 ca4 fa0 fa1 fa2 fa3 fa4
 clear rk
 clear sk ck0 ck1
 clear rt
 clear st ct0 ct1
 clear re
 clear se ce0 ce1 ce2 ce3
 clear rm
 clear sm cm0 cm1 fm0 fm1
 clear rd
 clear sd cd0 cd1
 clear hB sB hA hV
 rintro V19 ⟨hB,ra,rk,rt,re,rm,rd,hA,hV⟩
 obtain ⟨sa,ca0,ca1,ca2,ca3,ca4,fa0,fa1,fa2,fa3,fa4⟩:=RFz5 ra
 obtain ⟨sk,ck0,ck1⟩:=RF2 rk
 obtain ⟨st,ct0,ct1⟩:=RF2 rt
 obtain ⟨se,ce0,ce1,ce2,ce3⟩:=RF4 re
 obtain ⟨sm,cm0,cm1,fm0,fm1⟩:=RFz2 rm
 obtain ⟨sd,cd0,cd1⟩:=RF2 rd
 refine (RG _ _ _ hA (he.env.below hB)).mono ?_
 rintro e W20 ⟨rfl,h1⟩
 replace hA:=UAt.below hA h1
 replace hV:=UAt.below hV h1
 have stp:=St6 hB h1 ra rk rt re rm rd;clear hB h1 ra sa ca0 ca1 ca2 ca3 ca4 fa0 fa1 fa2 fa3 fa4 rk sk ck0 ck1 rt st ct0 ct1 re se ce0 ce1 ce2 ce3 rm sm cm0 cm1 fm0 fm1 rd sd cd0 cd1
 obtain ⟨hB,ra,rk,rt,re,rm,rd⟩:=stp
 obtain ⟨sa,ca0,ca1,ca2,ca3,ca4,fa0,fa1,fa2,fa3,fa4⟩:=RFz5 ra
 obtain ⟨sk,ck0,ck1⟩:=RF2 rk
 obtain ⟨st,ct0,ct1⟩:=RF2 rt
 obtain ⟨se,ce0,ce1,ce2,ce3⟩:=RF4 re
 obtain ⟨sm,cm0,cm1,fm0,fm1⟩:=RFz2 rm
 obtain ⟨sd,cd0,cd1⟩:=RF2 rd
 go_wp2_with fail
 have da_r:W3.heap.size<W20.heap.size:=by omega
 have dm_r:W13.heap.size<W20.heap.size:=by omega
 have sB:=hB.size
 refine wp_cut (fun X=>Below w.heap.size w X∧Row X W3.heap.size (.cells #[.string (S c2.num),.string (S (c2.den:Int)),.slice pa A.t.length ca,.string (S A.r.num),.string (S (A.r.den:Int))] 30)∧Row X W7.heap.size (.cells #[.string (S nq.num),.string (S (nq.den:Int))] 27)∧Row X W9.heap.size (.cells #[.string (S sqr.num),.string (S (sqr.den:Int))] 27)∧Row X W11.heap.size (.cells #[.string (S l1.num),.string (S (l1.den:Int)),.string (S l2.num),.string (S (l2.den:Int))] 53)∧Row X W13.heap.size (.cells #[.string (S m2.num),.string (S (m2.den:Int))] 27)∧Row X W16.heap.size (.cells #[.string (S mv.num),.string (S (mv.den:Int))] 27)∧Row X W20.heap.size (.cells #[.string (S r1.num),.string (S (r1.den:Int)),.string (S r2.num),.string (S (r2.den:Int))] 53)∧TAt 51 X pa A.t∧TAt 51 X pv VS) ⟨BW,RW8,RW8,RW8,RW8,RW8,RW8,RW8,TW,TW⟩ ?_
 clear ra
 clear sa ca0 ca1 ca2 ca3 ca4 fa0 fa1 fa2 fa3 fa4
 clear rk
 clear sk ck0 ck1
 clear rt
 clear st ct0 ct1
 clear re
 clear se ce0 ce1 ce2 ce3
 clear rm
 clear sm cm0 cm1 fm0 fm1
 clear rd
 clear sd cd0 cd1
 clear hB sB hA hV
 rintro V21 ⟨hB,ra,rk,rt,re,rm,rd,rr,hA,hV⟩
 obtain ⟨sa,ca0,ca1,ca2,ca3,ca4,fa0,fa1,fa2,fa3,fa4⟩:=RFz5 ra
 obtain ⟨sk,ck0,ck1⟩:=RF2 rk
 obtain ⟨st,ct0,ct1⟩:=RF2 rt
 obtain ⟨se,ce0,ce1,ce2,ce3⟩:=RF4 re
 obtain ⟨sm,cm0,cm1,fm0,fm1⟩:=RFz2 rm
 obtain ⟨sd,cd0,cd1⟩:=RF2 rd
 obtain ⟨sr,cr0,cr1,cr2,cr3⟩:=RF4 rr
 have da_u:=ra.1
 have dk_u:=rk.1
 have dt_u:=rt.1
 have de_u:=re.1
 have dm_u:=rm.1
 have dd_u:=rd.1
 have dr_u:=rr.1
 have d0_u:=hB.size
 refine wp_region_late 8 [6] [.val (.agg #[.string (S c2.num),.string (S (c2.den:Int)),.slice pa A.t.length ca,.string (S A.r.num),.string (S (A.r.den:Int))]),.val (.int .i64 fb),.val (.int .i64 pp),.say (SayZT z1 z2 z3 z4 l er),.say (SayZT z1 z2 z3 z4 l er),.say (SayZ z1 z2 z3 z4 l),.val (.int .i64 er),.say (fresh _ (.cells #[.string ⟨#[]⟩,.string ⟨#[]⟩,.slice none 0 0,.string ⟨#[]⟩,.string ⟨#[]⟩] 30))] [23] (by kernel_rfl) (by kernel_rfl) (by kernel_rfl) rfl ⟨SayZT.mono _ _ _ _ _ _,⟨SayZT.mono _ _ _ _ _ _,⟨SayZ.mono _ _ _ _ _,⟨fresh_mono _ _,trivial⟩⟩⟩⟩ (allItems.cons (qi1 fun X h=>RFz5 (Row.below ra h)) (allItems.cons qi0 (allItems.cons (qi2 fun X h=>PP X) (allItems.cons (qi3 fun X h=>SQ X _ _ (UAt.below hA h) (he.below (hB.trans (h.mono hB.size)))) (allItems.cons (qId8 (by intro ρ X qX qc qg qf qt qd;simp [depsSay,itemSp,QItem.sp,Region.binds] at qd;obtain ⟨p,c,e,h1⟩:=qd;simp [Region.wanted,yieldedBy,quietly,QItem.sp,execOp,go_sem,foreign,qc,qt,qf,Below.refl,e];exact ⟨p,c,rfl,h1⟩)) (allItems.cons (qId8 (by intro ρ X qX qc qg qf qt qd;simp [depsSay,itemSp,QItem.sp,Region.binds] at qd;obtain ⟨p,c,e,h1⟩:=qd;simp [Region.wanted,yieldedBy,quietly,QItem.sp,execOp,go_sem,foreign,qc,qt,qf,Below.refl,e];exact ⟨p,c,rfl,h1⟩)) (allItems.cons (qId8 (by intro ρ X qX qc qg qf qt qd;simp [depsSay,itemSp,QItem.sp,Region.binds] at qd;obtain ⟨p,c,e,h1⟩:=qd;simp [Region.wanted,yieldedBy,quietly,QItem.sp,execOp,go_sem,foreign,qc,qt,qf,Below.refl,e])) (allItems.cons qia trivial)))))))) ?_
 rintro W h1
 replace hA:=UAt.below hA h1
 replace hV:=UAt.below hV h1
 have stp:=St7 hB h1 ra rk rt re rm rd rr;clear hB h1 ra sa ca0 ca1 ca2 ca3 ca4 fa0 fa1 fa2 fa3 fa4 rk sk ck0 ck1 rt st ct0 ct1 re se ce0 ce1 ce2 ce3 rm sm cm0 cm1 fm0 fm1 rd sd cd0 cd1 rr sr cr0 cr1 cr2 cr3
 obtain ⟨hB,ra,rk,rt,re,rm,rd,rr⟩:=stp
 obtain ⟨sa,ca0,ca1,ca2,ca3,ca4,fa0,fa1,fa2,fa3,fa4⟩:=RFz5 ra
 obtain ⟨sk,ck0,ck1⟩:=RF2 rk
 obtain ⟨st,ct0,ct1⟩:=RF2 rt
 obtain ⟨se,ce0,ce1,ce2,ce3⟩:=RF4 re
 obtain ⟨sm,cm0,cm1,fm0,fm1⟩:=RFz2 rm
 obtain ⟨sd,cd0,cd1⟩:=RF2 rd
 obtain ⟨sr,cr0,cr1,cr2,cr3⟩:=RF4 rr
 simp only [setItems,List.setIfInBounds_toArray,List.set_cons_succ,List.set_cons_zero,List.take_succ_cons,List.take_zero,List.drop_succ_cons,List.drop_zero]
 rintro _ ⟨p3,c3,rfl,_⟩
 rintro _ ⟨p4,c4,rfl,_⟩
 rintro _ ⟨pU,cU,rfl,hU⟩
 rintro _ ⟨pu,rfl,hu,ru⟩
 replace da_u:=Nat.lt_of_lt_of_le da_u hu
 replace dk_u:=Nat.lt_of_lt_of_le dk_u hu
 replace dt_u:=Nat.lt_of_lt_of_le dt_u hu
 replace de_u:=Nat.lt_of_lt_of_le de_u hu
 replace dm_u:=Nat.lt_of_lt_of_le dm_u hu
 replace dd_u:=Nat.lt_of_lt_of_le dd_u hu
 replace dr_u:=Nat.lt_of_lt_of_le dr_u hu
 replace d0_u:=Nat.le_trans d0_u hu
 obtain ⟨su,cu0,cu1,cu2,cu3,cu4,fu0,fu1,fu2,fu3,fu4⟩:=RFz5 ru
 intro _
 go_wp2_with fail
 unfold normalQ
 rcases HC.out with ⟨hgg,rfl⟩ | ⟨hgg,rfl,AU,CT⟩
 ·go_wp2_with fail
  have sB:=hB.size
  refine wp_cut (fun X=>Below w.heap.size w X∧Row X W3.heap.size (.cells #[.string (S c2.num),.string (S (c2.den:Int)),.slice pa A.t.length ca,.string (S A.r.num),.string (S (A.r.den:Int))] 30)∧Row X W7.heap.size (.cells #[.string (S nq.num),.string (S (nq.den:Int))] 27)∧Row X W9.heap.size (.cells #[.string (S sqr.num),.string (S (sqr.den:Int))] 27)∧Row X W11.heap.size (.cells #[.string (S l1.num),.string (S (l1.den:Int)),.string (S l2.num),.string (S (l2.den:Int))] 53)∧Row X W13.heap.size (.cells #[.string (S m2.num),.string (S (m2.den:Int))] 27)∧Row X W16.heap.size (.cells #[.string (S mv.num),.string (S (mv.den:Int))] 27)∧Row X W20.heap.size (.cells #[.string (S r1.num),.string (S (r1.den:Int)),.string (S r2.num),.string (S (r2.den:Int))] 53)∧Row X pu (.cells #[.string z1,.string z2,.slice pU l.length cU,.string z3,.string z4] 30)∧TAt 51 X pa A.t∧TAt 51 X pv VS∧TAt 51 X pU l) ⟨BW,RW8,RW8,RW8,RW8,RW8,RW8,RW8,RW8,TW,TW,TW⟩ ?_
  clear ra
  clear sa ca0 ca1 ca2 ca3 ca4 fa0 fa1 fa2 fa3 fa4
  clear rk
  clear sk ck0 ck1
  clear rt
  clear st ct0 ct1
  clear re
  clear se ce0 ce1 ce2 ce3
  clear rm
  clear sm cm0 cm1 fm0 fm1
  clear rd
  clear sd cd0 cd1
  clear rr
  clear sr cr0 cr1 cr2 cr3
  clear ru
  clear su cu0 cu1 cu2 cu3 cu4 fu0 fu1 fu2 fu3 fu4
  clear hB sB hA hV hU
  rintro V22 ⟨hB,ra,rk,rt,re,rm,rd,rr,ru,hA,hV,hU⟩
  obtain ⟨sa,ca0,ca1,ca2,ca3,ca4,fa0,fa1,fa2,fa3,fa4⟩:=RFz5 ra
  obtain ⟨sk,ck0,ck1⟩:=RF2 rk
  obtain ⟨st,ct0,ct1⟩:=RF2 rt
  obtain ⟨se,ce0,ce1,ce2,ce3⟩:=RF4 re
  obtain ⟨sm,cm0,cm1,fm0,fm1⟩:=RFz2 rm
  obtain ⟨sd,cd0,cd1⟩:=RF2 rd
  obtain ⟨sr,cr0,cr1,cr2,cr3⟩:=RF4 rr
  obtain ⟨su,cu0,cu1,cu2,cu3,cu4,fu0,fu1,fu2,fu3,fu4⟩:=RFz5 ru
  refine wp_region_vals [.pointer (some ⟨W20.heap.size,0,none⟩),.agg #[.string (S r1.num),.string (S (r1.den:Int))],.agg #[.string (S z0.num),.string (S (z0.den:Int))],.int .i64 gg,.bool true] (by kernel_rfl) (by kernel_rfl) rfl (allVals.cons qv0 (allVals.cons (qv1 fun X h=>RF4 (Row.below rr h)) (allVals.cons (qv2 fun X h=>R0 X) (allVals.cons (qv2 fun X h=>C1 X (he.env.below (hB.trans (h.mono hB.size)))) (allVals.cons (qvf hgg) trivial))))) ?_
  rintro W h1
  replace hA:=UAt.below hA h1
  replace hV:=UAt.below hV h1
  replace hU:=UAt.below hU h1
  have stp:=St8 hB h1 ra rk rt re rm rd rr ru;clear hB h1 ra sa ca0 ca1 ca2 ca3 ca4 fa0 fa1 fa2 fa3 fa4 rk sk ck0 ck1 rt st ct0 ct1 re se ce0 ce1 ce2 ce3 rm sm cm0 cm1 fm0 fm1 rd sd cd0 cd1 rr sr cr0 cr1 cr2 cr3 ru su cu0 cu1 cu2 cu3 cu4 fu0 fu1 fu2 fu3 fu4
  obtain ⟨hB,ra,rk,rt,re,rm,rd,rr,ru⟩:=stp
  obtain ⟨sa,ca0,ca1,ca2,ca3,ca4,fa0,fa1,fa2,fa3,fa4⟩:=RFz5 ra
  obtain ⟨sk,ck0,ck1⟩:=RF2 rk
  obtain ⟨st,ct0,ct1⟩:=RF2 rt
  obtain ⟨se,ce0,ce1,ce2,ce3⟩:=RF4 re
  obtain ⟨sm,cm0,cm1,fm0,fm1⟩:=RFz2 rm
  obtain ⟨sd,cd0,cd1⟩:=RF2 rd
  obtain ⟨sr,cr0,cr1,cr2,cr3⟩:=RF4 rr
  obtain ⟨su,cu0,cu1,cu2,cu3,cu4,fu0,fu1,fu2,fu3,fu4⟩:=RFz5 ru
  simp only [setVals,List.setIfInBounds_toArray,List.set_cons_succ,List.set_cons_zero]
  go_wp2
  go_ret
  exact ⟨rfl,hB⟩
 ·go_wp2_with fail
  have sB:=hB.size
  refine wp_cut (fun X=>Below w.heap.size w X∧Row X W3.heap.size (.cells #[.string (S c2.num),.string (S (c2.den:Int)),.slice pa A.t.length ca,.string (S A.r.num),.string (S (A.r.den:Int))] 30)∧Row X W7.heap.size (.cells #[.string (S nq.num),.string (S (nq.den:Int))] 27)∧Row X W9.heap.size (.cells #[.string (S sqr.num),.string (S (sqr.den:Int))] 27)∧Row X W11.heap.size (.cells #[.string (S l1.num),.string (S (l1.den:Int)),.string (S l2.num),.string (S (l2.den:Int))] 53)∧Row X W13.heap.size (.cells #[.string (S m2.num),.string (S (m2.den:Int))] 27)∧Row X W16.heap.size (.cells #[.string (S mv.num),.string (S (mv.den:Int))] 27)∧Row X W20.heap.size (.cells #[.string (S r1.num),.string (S (r1.den:Int)),.string (S r2.num),.string (S (r2.den:Int))] 53)∧Row X pu (.cells #[.string z1,.string z2,.slice pU l.length cU,.string z3,.string z4] 30)∧TAt 51 X pa A.t∧TAt 51 X pv VS∧TAt 51 X pU l) ⟨BW,RW8,RW8,RW8,RW8,RW8,RW8,RW8,RW8,TW,TW,TW⟩ ?_
  clear ra
  clear sa ca0 ca1 ca2 ca3 ca4 fa0 fa1 fa2 fa3 fa4
  clear rk
  clear sk ck0 ck1
  clear rt
  clear st ct0 ct1
  clear re
  clear se ce0 ce1 ce2 ce3
  clear rm
  clear sm cm0 cm1 fm0 fm1
  clear rd
  clear sd cd0 cd1
  clear rr
  clear sr cr0 cr1 cr2 cr3
  clear ru
  clear su cu0 cu1 cu2 cu3 cu4 fu0 fu1 fu2 fu3 fu4
  clear hB sB hA hV hU
  rintro V22 ⟨hB,ra,rk,rt,re,rm,rd,rr,ru,hA,hV,hU⟩
  obtain ⟨sa,ca0,ca1,ca2,ca3,ca4,fa0,fa1,fa2,fa3,fa4⟩:=RFz5 ra
  obtain ⟨sk,ck0,ck1⟩:=RF2 rk
  obtain ⟨st,ct0,ct1⟩:=RF2 rt
  obtain ⟨se,ce0,ce1,ce2,ce3⟩:=RF4 re
  obtain ⟨sm,cm0,cm1,fm0,fm1⟩:=RFz2 rm
  obtain ⟨sd,cd0,cd1⟩:=RF2 rd
  obtain ⟨sr,cr0,cr1,cr2,cr3⟩:=RF4 rr
  obtain ⟨su,cu0,cu1,cu2,cu3,cu4,fu0,fu1,fu2,fu3,fu4⟩:=RFz5 ru
  refine wp_region_vals [.pointer (some ⟨W20.heap.size,0,none⟩),.agg #[.string (S r1.num),.string (S (r1.den:Int))],.agg #[.string (S z0.num),.string (S (z0.den:Int))],.int .i64 gg,.bool false] (by kernel_rfl) (by kernel_rfl) rfl (allVals.cons qv0 (allVals.cons (qv1 fun X h=>RF4 (Row.below rr h)) (allVals.cons (qv2 fun X h=>R0 X) (allVals.cons (qv2 fun X h=>C1 X (he.env.below (hB.trans (h.mono hB.size)))) (allVals.cons (qvf hgg) trivial))))) ?_
  rintro W h1
  replace hA:=UAt.below hA h1
  replace hV:=UAt.below hV h1
  replace hU:=UAt.below hU h1
  have stp:=St8 hB h1 ra rk rt re rm rd rr ru;clear hB h1 ra sa ca0 ca1 ca2 ca3 ca4 fa0 fa1 fa2 fa3 fa4 rk sk ck0 ck1 rt st ct0 ct1 re se ce0 ce1 ce2 ce3 rm sm cm0 cm1 fm0 fm1 rd sd cd0 cd1 rr sr cr0 cr1 cr2 cr3 ru su cu0 cu1 cu2 cu3 cu4 fu0 fu1 fu2 fu3 fu4
  obtain ⟨hB,ra,rk,rt,re,rm,rd,rr,ru⟩:=stp
  obtain ⟨sa,ca0,ca1,ca2,ca3,ca4,fa0,fa1,fa2,fa3,fa4⟩:=RFz5 ra
  obtain ⟨sk,ck0,ck1⟩:=RF2 rk
  obtain ⟨st,ct0,ct1⟩:=RF2 rt
  obtain ⟨se,ce0,ce1,ce2,ce3⟩:=RF4 re
  obtain ⟨sm,cm0,cm1,fm0,fm1⟩:=RFz2 rm
  obtain ⟨sd,cd0,cd1⟩:=RF2 rd
  obtain ⟨sr,cr0,cr1,cr2,cr3⟩:=RF4 rr
  obtain ⟨su,cu0,cu1,cu2,cu3,cu4,fu0,fu1,fu2,fu3,fu4⟩:=RFz5 ru
  simp only [setVals,List.setIfInBounds_toArray,List.set_cons_succ,List.set_cons_zero]
  go_wp2_with fail
  refine (AU _ _ _ _ _ hU hV (he.env.below hB)).mono ?_
  rintro e W23 ⟨rfl,h1⟩
  replace hA:=UAt.below hA h1
  replace hV:=UAt.below hV h1
  replace hU:=UAt.below hU h1
  have stp:=St8 hB h1 ra rk rt re rm rd rr ru;clear hB h1 ra sa ca0 ca1 ca2 ca3 ca4 fa0 fa1 fa2 fa3 fa4 rk sk ck0 ck1 rt st ct0 ct1 re se ce0 ce1 ce2 ce3 rm sm cm0 cm1 fm0 fm1 rd sd cd0 cd1 rr sr cr0 cr1 cr2 cr3 ru su cu0 cu1 cu2 cu3 cu4 fu0 fu1 fu2 fu3 fu4
  obtain ⟨hB,ra,rk,rt,re,rm,rd,rr,ru⟩:=stp
  obtain ⟨sa,ca0,ca1,ca2,ca3,ca4,fa0,fa1,fa2,fa3,fa4⟩:=RFz5 ra
  obtain ⟨sk,ck0,ck1⟩:=RF2 rk
  obtain ⟨st,ct0,ct1⟩:=RF2 rt
  obtain ⟨se,ce0,ce1,ce2,ce3⟩:=RF4 re
  obtain ⟨sm,cm0,cm1,fm0,fm1⟩:=RFz2 rm
  obtain ⟨sd,cd0,cd1⟩:=RF2 rd
  obtain ⟨sr,cr0,cr1,cr2,cr3⟩:=RF4 rr
  obtain ⟨su,cu0,cu1,cu2,cu3,cu4,fu0,fu1,fu2,fu3,fu4⟩:=RFz5 ru
  go_wp2_with fail
  have sB:=hB.size
  refine world_cut (fun X=>Below w.heap.size w X∧Row X W3.heap.size (.cells #[.string (S c2.num),.string (S (c2.den:Int)),.slice pa A.t.length ca,.string (S A.r.num),.string (S (A.r.den:Int))] 30)∧Row X W7.heap.size (.cells #[.string (S nq.num),.string (S (nq.den:Int))] 27)∧Row X W9.heap.size (.cells #[.string (S sqr.num),.string (S (sqr.den:Int))] 27)∧Row X W11.heap.size (.cells #[.string (S l1.num),.string (S (l1.den:Int)),.string (S l2.num),.string (S (l2.den:Int))] 53)∧Row X W13.heap.size (.cells #[.string (S m2.num),.string (S (m2.den:Int))] 27)∧Row X W16.heap.size (.cells #[.string (S mv.num),.string (S (mv.den:Int))] 27)∧Row X W20.heap.size (.cells #[.string (S r1.num),.string (S (r1.den:Int)),.string (S r2.num),.string (S (r2.den:Int))] 53)∧Row X pu (.cells #[.string z1,.string z2,.slice pU l.length cU,.string z3,.string z4] 30)∧TAt 51 X pa A.t∧TAt 51 X pv VS∧TAt 51 X pU l) ⟨BW,RW8,RW8,RW8,RW8,RW8,RW8,RW8,RW8,TW,TW,TW⟩ ?_
  clear ra
  clear sa ca0 ca1 ca2 ca3 ca4 fa0 fa1 fa2 fa3 fa4
  clear rk
  clear sk ck0 ck1
  clear rt
  clear st ct0 ct1
  clear re
  clear se ce0 ce1 ce2 ce3
  clear rm
  clear sm cm0 cm1 fm0 fm1
  clear rd
  clear sd cd0 cd1
  clear rr
  clear sr cr0 cr1 cr2 cr3
  clear ru
  clear su cu0 cu1 cu2 cu3 cu4 fu0 fu1 fu2 fu3 fu4
  clear hB sB hA hV hU
  rintro V24 ⟨hB,ra,rk,rt,re,rm,rd,rr,ru,hA,hV,hU⟩
  obtain ⟨sa,ca0,ca1,ca2,ca3,ca4,fa0,fa1,fa2,fa3,fa4⟩:=RFz5 ra
  obtain ⟨sk,ck0,ck1⟩:=RF2 rk
  obtain ⟨st,ct0,ct1⟩:=RF2 rt
  obtain ⟨se,ce0,ce1,ce2,ce3⟩:=RF4 re
  obtain ⟨sm,cm0,cm1,fm0,fm1⟩:=RFz2 rm
  obtain ⟨sd,cd0,cd1⟩:=RF2 rd
  obtain ⟨sr,cr0,cr1,cr2,cr3⟩:=RF4 rr
  obtain ⟨su,cu0,cu1,cu2,cu3,cu4,fu0,fu1,fu2,fu3,fu4⟩:=RFz5 ru
  refine (CT _ (he.env.below hB)).mono ?_
  rintro e W25 ⟨rfl,h1⟩
  replace hA:=UAt.below hA h1
  replace hV:=UAt.below hV h1
  replace hU:=UAt.below hU h1
  have stp:=St8 hB h1 ra rk rt re rm rd rr ru;clear hB h1 ra sa ca0 ca1 ca2 ca3 ca4 fa0 fa1 fa2 fa3 fa4 rk sk ck0 ck1 rt st ct0 ct1 re se ce0 ce1 ce2 ce3 rm sm cm0 cm1 fm0 fm1 rd sd cd0 cd1 rr sr cr0 cr1 cr2 cr3 ru su cu0 cu1 cu2 cu3 cu4 fu0 fu1 fu2 fu3 fu4
  obtain ⟨hB,ra,rk,rt,re,rm,rd,rr,ru⟩:=stp
  obtain ⟨sa,ca0,ca1,ca2,ca3,ca4,fa0,fa1,fa2,fa3,fa4⟩:=RFz5 ra
  obtain ⟨sk,ck0,ck1⟩:=RF2 rk
  obtain ⟨st,ct0,ct1⟩:=RF2 rt
  obtain ⟨se,ce0,ce1,ce2,ce3⟩:=RF4 re
  obtain ⟨sm,cm0,cm1,fm0,fm1⟩:=RFz2 rm
  obtain ⟨sd,cd0,cd1⟩:=RF2 rd
  obtain ⟨sr,cr0,cr1,cr2,cr3⟩:=RF4 rr
  obtain ⟨su,cu0,cu1,cu2,cu3,cu4,fu0,fu1,fu2,fu3,fu4⟩:=RFz5 ru
  go_wp2
  go_ret
  exact ⟨rfl,hB⟩
theorem dot_nil (vs:List Trm):∀ k,dot [] vs k=0
 | 0=>rfl
 | k+1=>by unfold dot;rw [dot_nil vs k,cf_nil];grind
theorem affineRoots {a0 a1:Addr} {c0 r0 fa fb:Int} {x z:Nat→Int} (hc0:IsInt c0) (hr0:IsInt r0) (hx:∀ i,i<6→IsInt (x i)) (hz:∀ i,i<6→IsInt (z i)) (hf:IsInt fa) (hb:IsInt fb) (w:World) (he:EnvA a0 a1 w) :
  Calls Tryz.prog 7 #[.agg #[.int .i64 c0,.int .i64 r0,.int .i64 (x 0),.int .i64 (x 1),.int .i64 (x 2),.int .i64 (x 3),.int .i64 (x 4),.int .i64 (x 5)],.agg #[.int .i64 (z 0),.int .i64 (z 1),.int .i64 (z 2),.int .i64 (z 3),.int .i64 (z 4),.int .i64 (z 5)],.int .i64 fa,.int .i64 fb] w (BoolOk true w):=by
 have hk0:=pk_nonneg fa (n:=60) (by decide)
 have hk1:=pk_lt fa (n:=60) (by decide)
 have PK:=fun W=>pickL8 fa 60 hf (by decide) W
 generalize pk fa 60=k at *
 have RB:=fun W=>lratio8 (n:=k) (d:=4) ⟨by omega,by omega⟩ (by decide) (by decide) W
 have gn:Gr 4 59 (Rat.divInt k 4):=Gr.ofInt (by decide) (by omega)
 have n0:0≤Rat.divInt k 4:=divInt_nonneg' (by decide) hk0
 generalize Rat.divInt k 4=nq at *
 have hp0:=pk_nonneg fb (n:=13) (by decide)
 have hp1:=pk_lt fb (n:=13) (by decide)
 have PP:=fun W=>pickL8 fb 13 hb (by decide) W
 generalize pk fb 13=pz at *
 obtain ⟨p,rfl⟩:∃ p:Nat,pz=(p:Int):=⟨pz.toNat,by omega⟩
 have hp:p≤12:=by omega
 have MA:=fun W=>lmade8 hc0 hr0 x hx W
 have oa:=mForm_ok c0 r0 x
 have ga:=mForm_gr c0 r0 x
 have la:=mForm_len c0 r0 x
 have sa:=mForm_six c0 r0 x
 have VA:∀ W,Calls Tryz.prog 29 #[.agg #[.int .i64 (z 0),.int .i64 (z 1),.int .i64 (z 2),.int .i64 (z 3),.int .i64 (z 4),.int .i64 (z 5)]] W (ListCap 51 (vTo z 6) W):=fun W=>r8values z hz W
 have hv:ValsOk (vTo z 6):=vTo_vals z (Nat.le_refl _)
 have gv:=vTo_gr z 6
 have al:=vTo_all (x:=z) sa
 have al6:∀ {l:List Trm},(∀ p,p ∈ l→1≤p.s∧p.s≤6)→AllIn (vTo z 6) l:=fun h=>vTo_all h
 generalize mForm c0 r0 x=A at *
 generalize vTo z 6=VS at *
 have hAt:=atF_made ga gv la
 have eAt:=at_all oa.src hv.src al
 obtain ⟨D,hD⟩:∃ D,D=dot A.t VS VS.length:=⟨_,rfl⟩
 have gD:Gr 32 3840 D:=by
  have h1:=midTo_gr (c:=0) ((Gr.zero 4).mono (Nat.zero_le 80)) ga.t gv A.t.length (Nat.le_refl _)
  rw [mid_all 0 oa.src hv.src al,← hD,Rat.zero_add] at h1
  exact h1.mono (by have:(A.t.length+1) * (80 * 8)≤6 * (80 * 8):=Nat.mul_le_mul_right _ (by omega);omega)
 have rD:=dot_rad oa.src hv.src al hv.unit
 rw [← hD] at eAt rD
 have da:FDig 9 A:=ga.dig (by decide) (by decide) (by decide)
 have dl1:QDig 9 (atI A VS).lo:=by
  rw [eAt];exact ((((ga.c.fine 8).add gD).sub (ga.r.fine 8)).mono (show _≤10000 by decide)).dig (by decide) (by decide) (by decide)
 have dl2:QDig 9 (atI A VS).hi:=by
  rw [eAt];exact ((((ga.c.fine 8).add gD).add (ga.r.fine 8)).mono (show _≤10000 by decide)).dig (by decide) (by decide) (by decide)
 have esum:(atI A VS).lo+(atI A VS).hi=(A.c+D) * 2:=by rw [eAt];show A.c+D - A.r+(A.c+D+A.r)=_;grind
 have emid:((atI A VS).lo+(atI A VS).hi) / 2=A.c+D:=by rw [esum,Rat.div_def,show (2:Rat)⁻¹=1 / 2 by decide +kernel];grind
 have dm2:QDig 9 (A.c+D):=(((ga.c.fine 8).add gD).mono (show _≤10000 by decide)).dig (by decide) (by decide) (by decide)
 have dm1:QDig 9 ((atI A VS).lo+(atI A VS).hi):=by
  rw [esum];exact ((((ga.c.fine 8).add gD).mul (show Gr 1 2 2 from ⟨2,by decide +kernel,by decide⟩)).mono (show _≤20000 by decide)).dig (by decide) (by decide) (by decide)
 have gsq:=gn.mul gn
 have dsq:QDig 9 (nq * nq):=gsq.dig (by decide) (by decide) (by decide)
 have gmv:Gr 32 30000 (nq * nq - (A.c+D)):=((gsq.fine 2).sub ((ga.c.fine 8).add gD)).mono (by decide)
 have dmv:QDig 9 (nq * nq - (A.c+D)):=gmv.dig (by decide) (by decide) (by decide)
 have ec2:A.c+(nq * nq - (A.c+D))=nq * nq - D:=by grind
 have gc2:Gr 32 20000 (nq * nq - D):=((gsq.fine 2).sub gD).mono (by decide)
 obtain ⟨B,hBe⟩:∃ B:Frm,B=⟨nq * nq - D,A.t,A.r⟩:=⟨_,rfl⟩
 have gB:FGr 32 20000 B:=by rw [hBe];exact ⟨gc2,fun p hp=>((ga.t p hp).fine 8).mono (by decide),(ga.r.fine 8).mono (by decide)⟩
 have oB:B.Ok:=by rw [hBe];exact ⟨oa.few,oa.src,oa.nz,oa.rest⟩
 have lB:B.t.length≤5:=by rw [hBe];exact la
 have rF:RangeF B:=RangeF.of gB (n:=6) (by omega) (by decide) (by decide +kernel) (by decide +kernel)
 have gR:=rad_gr gB (n:=6) (by omega)
 have dI:IDig 9 (rangeI B):=⟨((gB.c.sub gR).mono (show _≤200000 by decide)).dig (by decide) (by decide) (by decide),((gB.c.add gR).mono (show _≤200000 by decide)).dig (by decide) (by decide) (by decide)⟩
 have r0':=rad_nonneg oB.rest
 have okI:(rangeI B).Ok:=by show B.c - rad B≤B.c+rad B;grind
 have hasR:(rangeI B).Has (nq * nq):=by
  have e1:rad B=radTo A.t A.t.length+A.r:=by rw [hBe];rfl
  have e2:B.c=nq * nq - D:=by rw [hBe]
  have e3:=oa.rest
  show B.c - rad B≤nq * nq∧nq * nq≤B.c+rad B
  rw [e1,e2]
  grind
 have C1:=fun W (H:Env W)=>qcompare (rangeI B).lo 0 (dI.1.mono (by decide)) ((qd (by decide +kernel):QDig 9 0).mono (by decide)) W H
 have q2_:QDig 9 2:=qd (by decide +kernel)
 have RGh:∀ (W:World) (p:Option Addr) (c:Nat),TAt 51 W p A.t→Env W→Calls Tryz.prog 26 #[FV ⟨nq * nq - D,A.t,A.r⟩ p c] W (IvQ (rangeI B).lo (rangeI B).hi W):=fun W p c h H=>by
  rw [← hBe]
  exact (arange oB rF (by omega) p c W (by rw [hBe];exact h) H).mono fun e w' h=>h
 have ATh:∀ (W:World) (p:Option Addr) (c:Nat) (q:Option Addr) (d:Nat),TAt 51 W p A.t→TAt 51 W q VS→Env W→Calls Tryz.prog 27 #[FV A p c,.slice q VS.length d] W (IvQ (atI A VS).lo (atI A VS).hi W):=fun W p c q d h1 h2 H=>(aat hAt hv oa (da.mono (by decide)) p c q d W h1 h2 H).mono fun e w' h=>h
 have dn:QDig 9 nq:=gn.dig (by decide) (by decide) (by decide)
 have M1:=fun W (H:Env W)=>qmul dn dn (by decide) W H
 have A1:=fun W (H:Env W)=>qadd dl1 dl2 (by decide) W H
 have D1:∀ W,Env W→Calls Tryz.prog 30 #[Q ((atI A VS).lo+(atI A VS).hi),Q 2] W (QOk (A.c+D) W):=fun W H=>by rw [← emid];exact qdiv dm1 q2_ (by decide) (by decide +kernel) W H
 have S1:=fun W (H:Env W)=>qsub dsq dm2 (by decide) W H
 have A2:∀ W,Env W→Calls Tryz.prog 20 #[Q A.c,Q (nq * nq - (A.c+D))] W (QOk (nq * nq - D) W):=fun W H=>by rw [← ec2];exact qadd da.c dmv (by decide) W H
 have r21:RatioIs 2 1 2:=rat8 (by decide +kernel)
 have r01:RatioIs 0 1 0:=rat8 (by decide +kernel)
 by_cases hneg:(rangeI B).lo<0
 ·refine roots0 (A:=A) (VS:=VS) (l:=[]) (z1:=⟨#[]⟩) (z2:=⟨#[]⟩) (z3:=⟨#[]⟩) (z4:=⟨#[]⟩) (nq:=nq) (sqr:=nq * nq) (l1:=(atI A VS).lo) (l2:=(atI A VS).hi) (m1:=(atI A VS).lo+(atI A VS).hi) (two:=2) (m2:=A.c+D) (mv:=nq * nq - (A.c+D)) (c2:=nq * nq - D) (r1:=(rangeI B).lo) (r2:=(rangeI B).hi) (z0:=0) (h1:=0) (h2:=0) (k:=k) (pp:=(p:Int)) (gg:=cmpQ (rangeI B).lo 0) (er:=80)
   r21 r01 sane8 MA VA PK RB M1 ATh A1 D1 S1 A2 RGh PP C1 (fun W q c h1 H => ?_) (.inl ⟨cmpQ_lt.2 hneg,rfl⟩) w he
  have:=asqrt_err (p:=p) rF (dI.mono (by decide)) okI oB (by omega) hneg q c W (by rw [hBe];exact h1) H
  rw [hBe] at this
  exact this.mono fun e w' h=>⟨_,h.1,⟨none,0,rfl,UAt.nil _ _⟩,h.2⟩
 ·have hpos:0≤(rangeI B).lo:=by grind
  obtain ⟨s,hs⟩:=exists_sqrtI p hpos okI
  have hsn:s.Has nq:=SqrtI.has (TT_pos p) n0 hasR hs
  have lo0:=(hs.1.spec (TT_pos p)).1
  have hi0:=(hs.2.spec (TT_pos p)).1
  have fin:∀ U:Frm,U.Ok→FDig 200 U→AtF U VS→(atI U VS).Has nq→(∀ W (q:Option Addr) c,TAt 51 W q B.t→Env W→Calls Tryz.prog 32 #[FV B q c,.int .i64 (p:Int)] W (FRes U W))→Calls Tryz.prog 7 #[.agg #[.int .i64 c0,.int .i64 r0,.int .i64 (x 0),.int .i64 (x 1),.int .i64 (x 2),.int .i64 (x 3),.int .i64 (x 4),.int .i64 (x 5)],.agg #[.int .i64 (z 0),.int .i64 (z 1),.int .i64 (z 2),.int .i64 (z 3),.int .i64 (z 4),.int .i64 (z 5)],.int .i64 fa,.int .i64 fb] w (BoolOk true w):=fun U oU dU hU hh SQ=>by
   refine roots0 (A:=A) (VS:=VS) (l:=U.t) (z1:=S U.c.num) (z2:=S (U.c.den:Int)) (z3:=S U.r.num) (z4:=S (U.r.den:Int)) (nq:=nq) (sqr:=nq * nq) (l1:=(atI A VS).lo) (l2:=(atI A VS).hi) (m1:=(atI A VS).lo+(atI A VS).hi) (two:=2) (m2:=A.c+D) (mv:=nq * nq - (A.c+D)) (c2:=nq * nq - D) (r1:=(rangeI B).lo) (r2:=(rangeI B).hi) (z0:=0) (h1:=(atI U VS).lo) (h2:=(atI U VS).hi) (k:=k) (pp:=(p:Int)) (gg:=cmpQ (rangeI B).lo 0) (er:=0)
    r21 r01 sane8 MA VA PK RB M1 ATh A1 D1 S1 A2 RGh PP C1 (fun W q c h H => ?_) (.inr ⟨cmpQ_ge.2 hpos,rfl,fun W q c q' d h1 h2 H => ?_,fun W H => ?_⟩) w he
   ·have:=SQ W q c (by rw [hBe];exact h) H.env
    rw [hBe] at this
    exact this.mono fun e w' ⟨p',c',h1,h2,h3⟩=>⟨_,h2,⟨p',c',rfl,h1⟩,h3⟩
   ·exact (aat hU hv oU dU q c q' d W h1 h2 H).mono fun e w' h=>h
   ·have:=econtains (atI U VS) nq (at_idig hU) (dn.mono (by decide)) W H
    rw [show decide ((atI U VS).lo≤nq∧nq≤(atI U VS).hi)=true from decide_eq_true hh] at this
    exact this
  by_cases hz0:s.hi=0
  ·have nz:nq=0:=by
    have h1:=hsn.1
    have h2:=hsn.2
    grind
   have gk:FGr 4 80 (constF 0):=⟨(Gr.zero 4).mono (by decide),fun p hp=>(by cases hp),(Gr.zero 4).mono (by decide)⟩
   refine fin (constF 0) (const_ok 0) (gk.dig (by decide) (by decide +kernel) (by decide +kernel)) (atF_made gk gv (by decide)) ?_ (fun W q c h H=>asqrtz (j:=9) ⟨rF,by decide,by omega,by omega,dI,okI,hpos,hs,hz0⟩ oB q c W h H)
   rw [nz]
   refine (at_can SrcOk.nil hv.src (fun p hp=>(by cases hp)) 0).2 ?_
   unfold CanBe constF
   simp only
   rw [dot_nil]
   grind
  ·have hS:0<s.lo+s.hi:=by grind
   have e33:10 ^ (9+p+p)≤10 ^ 33:=Nat.pow_le_pow_right (by decide) (by omega)
   obtain ⟨hF,Dn,d1,d2,gU⟩:=sqrt_all hp gB ((RootLo.gr dI.1 hs.1).mono e33) ((RootHi.gr dI.2 hs.2).mono e33) hS lB oB.src dI okI hpos hs hz0
   have hsl:=sqrt_line hS hsn.1 hsn.2
   have hlen:(lin (1 / (s.lo+s.hi)) 0 B.t []).length≤5:=Nat.le_trans (lin_ok oB.src SrcOk.nil).len (by show B.t.length+0≤5;omega)
   have hsrc:SrcOk (lin (1 / (s.lo+s.hi)) 0 B.t []):=lin_src oB.src SrcOk.nil
   have hrest:0≤(sqrtF s B).r:=by
    have h1:=Rat.mul_nonneg (absQ_nonneg (1 / (s.lo+s.hi))) oB.rest
    show 0≤absQ (1 / (s.lo+s.hi)) * B.r+absQ 0 * 0+((s.lo+s.hi) / 4 - s.lo * s.hi / (s.lo+s.hi)) / 2
    have h2:=Rat.le_trans hsl.1 hsl.2
    grind
   have oU:(sqrtF s B).Ok:=⟨Nat.le_trans hlen (by decide),hsrc,lin_nz oB.src SrcOk.nil,hrest⟩
   refine fin (sqrtF s B) oU ((gU.dig (k:=90) d1 (Nat.lt_trans d2 (by decide +kernel)) (by decide +kernel)).mono (by decide)) (atF_of gU gv (n:=6) (Nat.succ_le_succ hlen) d1 (Nat.lt_trans (Nat.mul_lt_mul_of_pos_right d2 (by decide)) (by decide +kernel)) (by decide +kernel)) ?_ (fun W q c h H=>asqrt hF oB q c W h H)
   have hc:CanBe B D (nq * nq):=by
    rw [hBe]
    unfold CanBe
    simp only
    have:=oa.rest
    grind
   have hcl:=CanBe.line hc hsl.1 hsl.2
   have sl6:∀ t,t ∈ lin (1 / (s.lo+s.hi)) 0 B.t []→1≤t.s∧t.s≤6:=fun t ht=>⟨(hsrc.src t ht).1,lin_six oB.src SrcOk.nil (fun p hp=>(by rw [hBe] at hp;exact (sa p hp).2)) (fun p hp=>(by cases hp)) t ht⟩
   refine (at_can hsrc hv.src (al6 sl6) nq).2 ?_
   have ed:dot (lin (1 / (s.lo+s.hi)) 0 B.t []) VS VS.length=1 / (s.lo+s.hi) * D+0 * 0:=by
    rw [dot_lin (p:=1 / (s.lo+s.hi)) (q:=0) (a:=B.t) (b:=[]) (fun id=>lin_cf oB.src SrcOk.nil id),dot_nil,hBe,hD]
   show CanBe (sqrtF s B) (dot (lin (1 / (s.lo+s.hi)) 0 B.t []) VS VS.length) nq
   rw [ed]
   exact hcl
end Go.Proofs.YtjpkfjmmmmfeeaaGreatDoor
