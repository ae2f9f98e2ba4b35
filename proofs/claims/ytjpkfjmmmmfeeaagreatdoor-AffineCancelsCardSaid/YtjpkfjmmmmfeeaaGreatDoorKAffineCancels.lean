/-
 AffineCancels: the law's walk.
-/
import Derived.Test.YtjpkfjmmmmfeeaaGreatDoorKAFits
import Derived.Test.YtjpkfjmmmmfeeaaGreatDoorKExtra0
set_option linter.unusedSimpArgs false
set_option linter.unusedVariables false
set_option maxRecDepth 100000
set_option maxHeartbeats 16000000
namespace Go.Proofs.YtjpkfjmmmmfeeaaGreatDoor
open Go Go.RowKit Go.Lib Go.Shelf
attribute [local go_sem] normalQ
def NoneIs (z rr:Rat) (w:World) (e:Ending) (w':World):Prop:=∃ p c,e = .returned (.tuple #[.agg #[.string (S z.num),.string (S (z.den:Int)),.slice p 0 c,.string (S rr.num),.string (S (rr.den:Int))],.int .i64 0])∧Below w.heap.size w w'
def BackIs (A:Frm) (kr:Rat) (w:World) (e:Ending) (w':World):Prop:=∃ p c,TAt 51 w' p A.t∧e = .returned (.tuple #[.agg #[.string (S A.c.num),.string (S (A.c.den:Int)),.slice p A.t.length c,.string (S kr.num),.string (S (kr.den:Int))],.int .i64 0])∧Below w.heap.size w w'
theorem cancels0 {A B U:Frm} {z rr kr:Rat} {c0 r0 c1 r1:Int} {x y:Nat→Int} (R0:RatioIs 0 1 z) (SE:∀ (W:World),Env W→Calls Tryz.prog 10 #[] W (BoolOk true W)) (MA:∀ (W:World),Calls Tryz.prog 11 #[.agg #[.int .i64 c0,.int .i64 r0,.int .i64 (x 0),.int .i64 (x 1),.int .i64 (x 2),.int .i64 (x 3),.int .i64 (x 4),.int .i64 (x 5)]] W (FIs A W)) (MB:∀ (W:World),Calls Tryz.prog 11 #[.agg #[.int .i64 c1,.int .i64 r1,.int .i64 (y 0),.int .i64 (y 1),.int .i64 (y 2),.int .i64 (y 3),.int .i64 (y 4),.int .i64 (y 5)]] W (FIs B W)) (SA:∀ (W:World) (p:Option Addr) (c:Nat) (q:Option Addr) (d:Nat),TAt 51 W p A.t→TAt 51 W q A.t→Env W→Calls Tryz.prog 21 #[FV A p c,FV A q d] W (NoneIs z rr W)) (AD:∀ (W:World) (p:Option Addr) (c:Nat) (q:Option Addr) (d:Nat),TAt 51 W p A.t→TAt 51 W q B.t→Env W→Calls Tryz.prog 22 #[FV A p c,FV B q d] W (FRes U W)) (SU:∀ (W:World) (p:Option Addr) (c:Nat) (q:Option Addr) (d:Nat),TAt 51 W p U.t→TAt 51 W q B.t→Env W→Calls Tryz.prog 21 #[FV U p c,FV B q d] W (BackIs A kr W)) (RA:∀ (W:World),Env W→Calls Tryz.prog 20 #[Q A.r,Q A.r] W (QOk rr W)) (SM:∀ (W:World) (p:Option Addr) (c:Nat) (q:Option Addr) (d:Nat),TAt 51 W p A.t→TAt 51 W q A.t→Calls Tryz.prog 17 #[FV A p c,FV A q d] W (BoolOk true W)) (w:World) (he:Env w):Calls Tryz.prog 4 #[.agg #[.int .i64 c0,.int .i64 r0,.int .i64 (x 0),.int .i64 (x 1),.int .i64 (x 2),.int .i64 (x 3),.int .i64 (x 4),.int .i64 (x 5)],.agg #[.int .i64 c1,.int .i64 r1,.int .i64 (y 0),.int .i64 (y 1),.int .i64 (y 2),.int .i64 (y 3),.int .i64 (y 4),.int .i64 (y 5)]] w (BoolOk true w):=by
 have hB:Below w.heap.size w w:=Below.refl _ _
 unfold RatioIs QIs Q at R0
 unfold BoolOk at SE SM
 unfold FIs at MA MB
 unfold NoneIs at SA
 unfold FRes at AD
 unfold BackIs at SU
 unfold QOk Q at RA
 unfold BoolOk
 unfold FV at *
 go_enter Tryz.func4, Tryz.ntmps4
 go_wp2_with fail
 have sB:=hB.size
 refine world_cut (fun X=>Below w.heap.size w X∧Row X w.heap.size (.cells #[.int .i64 c0,.int .i64 r0,.int .i64 (x 0),.int .i64 (x 1),.int .i64 (x 2),.int .i64 (x 3),.int .i64 (x 4),.int .i64 (x 5)] 24)∧Row X (w.heap.size+1) (.cells #[.int .i64 c1,.int .i64 r1,.int .i64 (y 0),.int .i64 (y 1),.int .i64 (y 2),.int .i64 (y 3),.int .i64 (y 4),.int .i64 (y 5)] 24)) ⟨BW,RW8,RW8⟩ ?_
 clear hB sB
 rintro V1 ⟨hB,rx,ry⟩
 have Fx:∀ X,Row X w.heap.size (.cells #[.int .i64 c0,.int .i64 r0,.int .i64 (x 0),.int .i64 (x 1),.int .i64 (x 2),.int .i64 (x 3),.int .i64 (x 4),.int .i64 (x 5)] 24)→(w.heap.size<X.heap.size∧X.cell? ⟨w.heap.size,0,none⟩=some (.int .i64 c0)∧X.cell? ⟨w.heap.size,1,none⟩=some (.int .i64 r0)∧X.cell? ⟨w.heap.size,2,none⟩=some (.int .i64 (x 0))∧X.cell? ⟨w.heap.size,3,none⟩=some (.int .i64 (x 1))∧X.cell? ⟨w.heap.size,4,none⟩=some (.int .i64 (x 2))∧X.cell? ⟨w.heap.size,5,none⟩=some (.int .i64 (x 3))∧X.cell? ⟨w.heap.size,6,none⟩=some (.int .i64 (x 4))∧X.cell? ⟨w.heap.size,7,none⟩=some (.int .i64 (x 5))):=fun X h=>⟨h.1,Row.cell_at h 0 rfl,Row.cell_at h 1 rfl,Row.cell_at h 2 rfl,Row.cell_at h 3 rfl,Row.cell_at h 4 rfl,Row.cell_at h 5 rfl,Row.cell_at h 6 rfl,Row.cell_at h 7 rfl⟩
 obtain ⟨sx,cx0,cx1,cx2,cx3,cx4,cx5,cx6,cx7⟩:=Fx _ rx
 have Fy:∀ X,Row X (w.heap.size+1) (.cells #[.int .i64 c1,.int .i64 r1,.int .i64 (y 0),.int .i64 (y 1),.int .i64 (y 2),.int .i64 (y 3),.int .i64 (y 4),.int .i64 (y 5)] 24)→(w.heap.size+1<X.heap.size∧X.cell? ⟨w.heap.size+1,0,none⟩=some (.int .i64 c1)∧X.cell? ⟨w.heap.size+1,1,none⟩=some (.int .i64 r1)∧X.cell? ⟨w.heap.size+1,2,none⟩=some (.int .i64 (y 0))∧X.cell? ⟨w.heap.size+1,3,none⟩=some (.int .i64 (y 1))∧X.cell? ⟨w.heap.size+1,4,none⟩=some (.int .i64 (y 2))∧X.cell? ⟨w.heap.size+1,5,none⟩=some (.int .i64 (y 3))∧X.cell? ⟨w.heap.size+1,6,none⟩=some (.int .i64 (y 4))∧X.cell? ⟨w.heap.size+1,7,none⟩=some (.int .i64 (y 5))):=fun X h=>⟨h.1,Row.cell_at h 0 rfl,Row.cell_at h 1 rfl,Row.cell_at h 2 rfl,Row.cell_at h 3 rfl,Row.cell_at h 4 rfl,Row.cell_at h 5 rfl,Row.cell_at h 6 rfl,Row.cell_at h 7 rfl⟩
 obtain ⟨sy,cy0,cy1,cy2,cy3,cy4,cy5,cy6,cy7⟩:=Fy _ ry
 refine (SE _ (he.below hB)).mono ?_
 rintro e W2 ⟨rfl,h1⟩
 have stp:=St2 hB h1 rx ry;clear hB h1 rx sx cx0 cx1 cx2 cx3 cx4 cx5 cx6 cx7 ry sy cy0 cy1 cy2 cy3 cy4 cy5 cy6 cy7
 obtain ⟨hB,rx,ry⟩:=stp
 obtain ⟨sx,cx0,cx1,cx2,cx3,cx4,cx5,cx6,cx7⟩:=Fx _ rx
 obtain ⟨sy,cy0,cy1,cy2,cy3,cy4,cy5,cy6,cy7⟩:=Fy _ ry
 go_wp2_with fail
 refine (MA _).mono ?_
 rintro e W3 ⟨pa,ca,hA,rfl,h1⟩
 have stp:=St2 hB h1 rx ry;clear hB h1 rx sx cx0 cx1 cx2 cx3 cx4 cx5 cx6 cx7 ry sy cy0 cy1 cy2 cy3 cy4 cy5 cy6 cy7
 obtain ⟨hB,rx,ry⟩:=stp
 obtain ⟨sx,cx0,cx1,cx2,cx3,cx4,cx5,cx6,cx7⟩:=Fx _ rx
 obtain ⟨sy,cy0,cy1,cy2,cy3,cy4,cy5,cy6,cy7⟩:=Fy _ ry
 go_wp2_with fail
 have sB:=hB.size
 refine world_cut (fun X=>Below w.heap.size w X∧Row X w.heap.size (.cells #[.int .i64 c0,.int .i64 r0,.int .i64 (x 0),.int .i64 (x 1),.int .i64 (x 2),.int .i64 (x 3),.int .i64 (x 4),.int .i64 (x 5)] 24)∧Row X (w.heap.size+1) (.cells #[.int .i64 c1,.int .i64 r1,.int .i64 (y 0),.int .i64 (y 1),.int .i64 (y 2),.int .i64 (y 3),.int .i64 (y 4),.int .i64 (y 5)] 24)∧Row X W3.heap.size (.cells #[.string (S A.c.num),.string (S (A.c.den:Int)),.slice pa A.t.length ca,.string (S A.r.num),.string (S (A.r.den:Int))] 30)∧TAt 51 X pa A.t) ⟨BW,RW8,RW8,RW8,TW⟩ ?_
 clear rx
 clear sx cx0 cx1 cx2 cx3 cx4 cx5 cx6 cx7
 clear ry
 clear sy cy0 cy1 cy2 cy3 cy4 cy5 cy6 cy7
 clear hB sB hA
 rintro V4 ⟨hB,rx,ry,ra,hA⟩
 obtain ⟨sx,cx0,cx1,cx2,cx3,cx4,cx5,cx6,cx7⟩:=Fx _ rx
 obtain ⟨sy,cy0,cy1,cy2,cy3,cy4,cy5,cy6,cy7⟩:=Fy _ ry
 obtain ⟨sa,ca0,ca1,ca2,ca3,ca4⟩:=RF5 ra
 refine (MB _).mono ?_
 rintro e W5 ⟨pb,cb,hBt,rfl,h1⟩
 replace hA:=UAt.below hA h1
 have stp:=St3 hB h1 rx ry ra;clear hB h1 rx sx cx0 cx1 cx2 cx3 cx4 cx5 cx6 cx7 ry sy cy0 cy1 cy2 cy3 cy4 cy5 cy6 cy7 ra sa ca0 ca1 ca2 ca3 ca4
 obtain ⟨hB,rx,ry,ra⟩:=stp
 obtain ⟨sx,cx0,cx1,cx2,cx3,cx4,cx5,cx6,cx7⟩:=Fx _ rx
 obtain ⟨sy,cy0,cy1,cy2,cy3,cy4,cy5,cy6,cy7⟩:=Fy _ ry
 obtain ⟨sa,ca0,ca1,ca2,ca3,ca4⟩:=RF5 ra
 go_wp2_with fail
 have sB:=hB.size
 refine world_cut (fun X=>Below w.heap.size w X∧Row X w.heap.size (.cells #[.int .i64 c0,.int .i64 r0,.int .i64 (x 0),.int .i64 (x 1),.int .i64 (x 2),.int .i64 (x 3),.int .i64 (x 4),.int .i64 (x 5)] 24)∧Row X (w.heap.size+1) (.cells #[.int .i64 c1,.int .i64 r1,.int .i64 (y 0),.int .i64 (y 1),.int .i64 (y 2),.int .i64 (y 3),.int .i64 (y 4),.int .i64 (y 5)] 24)∧Row X W3.heap.size (.cells #[.string (S A.c.num),.string (S (A.c.den:Int)),.slice pa A.t.length ca,.string (S A.r.num),.string (S (A.r.den:Int))] 30)∧Row X W5.heap.size (.cells #[.string (S B.c.num),.string (S (B.c.den:Int)),.slice pb B.t.length cb,.string (S B.r.num),.string (S (B.r.den:Int))] 30)∧TAt 51 X pa A.t∧TAt 51 X pb B.t) ⟨BW,RW8,RW8,RW8,RW8,TW,TW⟩ ?_
 clear rx
 clear sx cx0 cx1 cx2 cx3 cx4 cx5 cx6 cx7
 clear ry
 clear sy cy0 cy1 cy2 cy3 cy4 cy5 cy6 cy7
 clear ra
 clear sa ca0 ca1 ca2 ca3 ca4
 clear hB sB hA hBt
 rintro V6 ⟨hB,rx,ry,ra,rb,hA,hBt⟩
 obtain ⟨sx,cx0,cx1,cx2,cx3,cx4,cx5,cx6,cx7⟩:=Fx _ rx
 obtain ⟨sy,cy0,cy1,cy2,cy3,cy4,cy5,cy6,cy7⟩:=Fy _ ry
 obtain ⟨sa,ca0,ca1,ca2,ca3,ca4⟩:=RF5 ra
 obtain ⟨sb,cb0,cb1,cb2,cb3,cb4⟩:=RF5 rb
 refine (SA _ _ _ _ _ hA hA (he.below hB)).mono ?_
 rintro e W7 ⟨pn,cn,rfl,h1⟩
 replace hA:=UAt.below hA h1
 replace hBt:=UAt.below hBt h1
 have stp:=St4 hB h1 rx ry ra rb;clear hB h1 rx sx cx0 cx1 cx2 cx3 cx4 cx5 cx6 cx7 ry sy cy0 cy1 cy2 cy3 cy4 cy5 cy6 cy7 ra sa ca0 ca1 ca2 ca3 ca4 rb sb cb0 cb1 cb2 cb3 cb4
 obtain ⟨hB,rx,ry,ra,rb⟩:=stp
 obtain ⟨sx,cx0,cx1,cx2,cx3,cx4,cx5,cx6,cx7⟩:=Fx _ rx
 obtain ⟨sy,cy0,cy1,cy2,cy3,cy4,cy5,cy6,cy7⟩:=Fy _ ry
 obtain ⟨sa,ca0,ca1,ca2,ca3,ca4⟩:=RF5 ra
 obtain ⟨sb,cb0,cb1,cb2,cb3,cb4⟩:=RF5 rb
 go_wp2_with fail
 have sB:=hB.size
 refine world_cut (fun X=>Below w.heap.size w X∧Row X w.heap.size (.cells #[.int .i64 c0,.int .i64 r0,.int .i64 (x 0),.int .i64 (x 1),.int .i64 (x 2),.int .i64 (x 3),.int .i64 (x 4),.int .i64 (x 5)] 24)∧Row X (w.heap.size+1) (.cells #[.int .i64 c1,.int .i64 r1,.int .i64 (y 0),.int .i64 (y 1),.int .i64 (y 2),.int .i64 (y 3),.int .i64 (y 4),.int .i64 (y 5)] 24)∧Row X W3.heap.size (.cells #[.string (S A.c.num),.string (S (A.c.den:Int)),.slice pa A.t.length ca,.string (S A.r.num),.string (S (A.r.den:Int))] 30)∧Row X W5.heap.size (.cells #[.string (S B.c.num),.string (S (B.c.den:Int)),.slice pb B.t.length cb,.string (S B.r.num),.string (S (B.r.den:Int))] 30)∧Row X W7.heap.size (.cells #[.string (S z.num),.string (S (z.den:Int)),.slice pn 0 cn,.string (S rr.num),.string (S (rr.den:Int))] 30)∧TAt 51 X pa A.t∧TAt 51 X pb B.t) ⟨BW,RW8,RW8,RW8,RW8,RW8,TW,TW⟩ ?_
 clear rx
 clear sx cx0 cx1 cx2 cx3 cx4 cx5 cx6 cx7
 clear ry
 clear sy cy0 cy1 cy2 cy3 cy4 cy5 cy6 cy7
 clear ra
 clear sa ca0 ca1 ca2 ca3 ca4
 clear rb
 clear sb cb0 cb1 cb2 cb3 cb4
 clear hB sB hA hBt
 rintro V8 ⟨hB,rx,ry,ra,rb,rn,hA,hBt⟩
 obtain ⟨sx,cx0,cx1,cx2,cx3,cx4,cx5,cx6,cx7⟩:=Fx _ rx
 obtain ⟨sy,cy0,cy1,cy2,cy3,cy4,cy5,cy6,cy7⟩:=Fy _ ry
 obtain ⟨sa,ca0,ca1,ca2,ca3,ca4⟩:=RF5 ra
 obtain ⟨sb,cb0,cb1,cb2,cb3,cb4⟩:=RF5 rb
 obtain ⟨sn,cn0,cn1,cn2,cn3,cn4⟩:=RF5 rn
 refine (AD _ _ _ _ _ hA hBt (he.below hB)).mono ?_
 rintro e W9 ⟨pu,cu,hU,rfl,h1⟩
 replace hA:=UAt.below hA h1
 replace hBt:=UAt.below hBt h1
 have stp:=St5 hB h1 rx ry ra rb rn;clear hB h1 rx sx cx0 cx1 cx2 cx3 cx4 cx5 cx6 cx7 ry sy cy0 cy1 cy2 cy3 cy4 cy5 cy6 cy7 ra sa ca0 ca1 ca2 ca3 ca4 rb sb cb0 cb1 cb2 cb3 cb4 rn sn cn0 cn1 cn2 cn3 cn4
 obtain ⟨hB,rx,ry,ra,rb,rn⟩:=stp
 obtain ⟨sx,cx0,cx1,cx2,cx3,cx4,cx5,cx6,cx7⟩:=Fx _ rx
 obtain ⟨sy,cy0,cy1,cy2,cy3,cy4,cy5,cy6,cy7⟩:=Fy _ ry
 obtain ⟨sa,ca0,ca1,ca2,ca3,ca4⟩:=RF5 ra
 obtain ⟨sb,cb0,cb1,cb2,cb3,cb4⟩:=RF5 rb
 obtain ⟨sn,cn0,cn1,cn2,cn3,cn4⟩:=RF5 rn
 go_wp2_with fail
 have sB:=hB.size
 refine world_cut (fun X=>Below w.heap.size w X∧Row X w.heap.size (.cells #[.int .i64 c0,.int .i64 r0,.int .i64 (x 0),.int .i64 (x 1),.int .i64 (x 2),.int .i64 (x 3),.int .i64 (x 4),.int .i64 (x 5)] 24)∧Row X (w.heap.size+1) (.cells #[.int .i64 c1,.int .i64 r1,.int .i64 (y 0),.int .i64 (y 1),.int .i64 (y 2),.int .i64 (y 3),.int .i64 (y 4),.int .i64 (y 5)] 24)∧Row X W3.heap.size (.cells #[.string (S A.c.num),.string (S (A.c.den:Int)),.slice pa A.t.length ca,.string (S A.r.num),.string (S (A.r.den:Int))] 30)∧Row X W5.heap.size (.cells #[.string (S B.c.num),.string (S (B.c.den:Int)),.slice pb B.t.length cb,.string (S B.r.num),.string (S (B.r.den:Int))] 30)∧Row X W7.heap.size (.cells #[.string (S z.num),.string (S (z.den:Int)),.slice pn 0 cn,.string (S rr.num),.string (S (rr.den:Int))] 30)∧Row X W9.heap.size (.cells #[.string (S U.c.num),.string (S (U.c.den:Int)),.slice pu U.t.length cu,.string (S U.r.num),.string (S (U.r.den:Int))] 30)∧TAt 51 X pa A.t∧TAt 51 X pb B.t∧TAt 51 X pu U.t) ⟨BW,RW8,RW8,RW8,RW8,RW8,RW8,TW,TW,TW⟩ ?_
 clear rx
 clear sx cx0 cx1 cx2 cx3 cx4 cx5 cx6 cx7
 clear ry
 clear sy cy0 cy1 cy2 cy3 cy4 cy5 cy6 cy7
 clear ra
 clear sa ca0 ca1 ca2 ca3 ca4
 clear rb
 clear sb cb0 cb1 cb2 cb3 cb4
 clear rn
 clear sn cn0 cn1 cn2 cn3 cn4
 clear hB sB hA hBt hU
 rintro V10 ⟨hB,rx,ry,ra,rb,rn,ru,hA,hBt,hU⟩
 obtain ⟨sx,cx0,cx1,cx2,cx3,cx4,cx5,cx6,cx7⟩:=Fx _ rx
 obtain ⟨sy,cy0,cy1,cy2,cy3,cy4,cy5,cy6,cy7⟩:=Fy _ ry
 obtain ⟨sa,ca0,ca1,ca2,ca3,ca4⟩:=RF5 ra
 obtain ⟨sb,cb0,cb1,cb2,cb3,cb4⟩:=RF5 rb
 obtain ⟨sn,cn0,cn1,cn2,cn3,cn4⟩:=RF5 rn
 obtain ⟨su,cu0,cu1,cu2,cu3,cu4⟩:=RF5 ru
 refine (SU _ _ _ _ _ hU hBt (he.below hB)).mono ?_
 rintro e W11 ⟨pk,ck,hK,rfl,h1⟩
 replace hA:=UAt.below hA h1
 replace hBt:=UAt.below hBt h1
 replace hU:=UAt.below hU h1
 have stp:=St6 hB h1 rx ry ra rb rn ru;clear hB h1 rx sx cx0 cx1 cx2 cx3 cx4 cx5 cx6 cx7 ry sy cy0 cy1 cy2 cy3 cy4 cy5 cy6 cy7 ra sa ca0 ca1 ca2 ca3 ca4 rb sb cb0 cb1 cb2 cb3 cb4 rn sn cn0 cn1 cn2 cn3 cn4 ru su cu0 cu1 cu2 cu3 cu4
 obtain ⟨hB,rx,ry,ra,rb,rn,ru⟩:=stp
 obtain ⟨sx,cx0,cx1,cx2,cx3,cx4,cx5,cx6,cx7⟩:=Fx _ rx
 obtain ⟨sy,cy0,cy1,cy2,cy3,cy4,cy5,cy6,cy7⟩:=Fy _ ry
 obtain ⟨sa,ca0,ca1,ca2,ca3,ca4⟩:=RF5 ra
 obtain ⟨sb,cb0,cb1,cb2,cb3,cb4⟩:=RF5 rb
 obtain ⟨sn,cn0,cn1,cn2,cn3,cn4⟩:=RF5 rn
 obtain ⟨su,cu0,cu1,cu2,cu3,cu4⟩:=RF5 ru
 go_wp2_with fail
 have dx_k:w.heap.size<W11.heap.size:=by omega
 have dy_k:w.heap.size+1<W11.heap.size:=by omega
 have da_k:W3.heap.size<W11.heap.size:=by omega
 have db_k:W5.heap.size<W11.heap.size:=by omega
 have dn_k:W7.heap.size<W11.heap.size:=by omega
 have du_k:W9.heap.size<W11.heap.size:=by omega
 have d0_k:w.heap.size≤W11.heap.size:=by have:=hB.size;omega
 have sB:=hB.size
 refine world_cut (fun X=>Below w.heap.size w X∧Row X w.heap.size (.cells #[.int .i64 c0,.int .i64 r0,.int .i64 (x 0),.int .i64 (x 1),.int .i64 (x 2),.int .i64 (x 3),.int .i64 (x 4),.int .i64 (x 5)] 24)∧Row X (w.heap.size+1) (.cells #[.int .i64 c1,.int .i64 r1,.int .i64 (y 0),.int .i64 (y 1),.int .i64 (y 2),.int .i64 (y 3),.int .i64 (y 4),.int .i64 (y 5)] 24)∧Row X W3.heap.size (.cells #[.string (S A.c.num),.string (S (A.c.den:Int)),.slice pa A.t.length ca,.string (S A.r.num),.string (S (A.r.den:Int))] 30)∧Row X W5.heap.size (.cells #[.string (S B.c.num),.string (S (B.c.den:Int)),.slice pb B.t.length cb,.string (S B.r.num),.string (S (B.r.den:Int))] 30)∧Row X W7.heap.size (.cells #[.string (S z.num),.string (S (z.den:Int)),.slice pn 0 cn,.string (S rr.num),.string (S (rr.den:Int))] 30)∧Row X W9.heap.size (.cells #[.string (S U.c.num),.string (S (U.c.den:Int)),.slice pu U.t.length cu,.string (S U.r.num),.string (S (U.r.den:Int))] 30)∧Row X W11.heap.size (.cells #[.string (S A.c.num),.string (S (A.c.den:Int)),.slice pk A.t.length ck,.string (S kr.num),.string (S (kr.den:Int))] 30)∧TAt 51 X pa A.t∧TAt 51 X pb B.t∧TAt 51 X pu U.t∧TAt 51 X pk A.t) ⟨BW,RW8,RW8,RW8,RW8,RW8,RW8,RW8,TW,TW,TW,TW⟩ ?_
 clear rx
 clear sx cx0 cx1 cx2 cx3 cx4 cx5 cx6 cx7
 clear ry
 clear sy cy0 cy1 cy2 cy3 cy4 cy5 cy6 cy7
 clear ra
 clear sa ca0 ca1 ca2 ca3 ca4
 clear rb
 clear sb cb0 cb1 cb2 cb3 cb4
 clear rn
 clear sn cn0 cn1 cn2 cn3 cn4
 clear ru
 clear su cu0 cu1 cu2 cu3 cu4
 clear hB sB hA hBt hU hK
 rintro V12 ⟨hB,rx,ry,ra,rb,rn,ru,rk,hA,hBt,hU,hK⟩
 obtain ⟨sx,cx0,cx1,cx2,cx3,cx4,cx5,cx6,cx7⟩:=Fx _ rx
 obtain ⟨sy,cy0,cy1,cy2,cy3,cy4,cy5,cy6,cy7⟩:=Fy _ ry
 obtain ⟨sa,ca0,ca1,ca2,ca3,ca4⟩:=RF5 ra
 obtain ⟨sb,cb0,cb1,cb2,cb3,cb4⟩:=RF5 rb
 obtain ⟨sn,cn0,cn1,cn2,cn3,cn4⟩:=RF5 rn
 obtain ⟨su,cu0,cu1,cu2,cu3,cu4⟩:=RF5 ru
 obtain ⟨sk,ck0,ck1,ck2,ck3,ck4,fk0,fk1,fk2,fk3,fk4⟩:=RFz5 rk
 refine (RA _ (he.below hB)).mono ?_
 rintro e W13 ⟨rfl,h1⟩
 replace hA:=UAt.below hA h1
 replace hBt:=UAt.below hBt h1
 replace hU:=UAt.below hU h1
 replace hK:=UAt.below hK h1
 have stp:=St7 hB h1 rx ry ra rb rn ru rk;clear hB h1 rx sx cx0 cx1 cx2 cx3 cx4 cx5 cx6 cx7 ry sy cy0 cy1 cy2 cy3 cy4 cy5 cy6 cy7 ra sa ca0 ca1 ca2 ca3 ca4 rb sb cb0 cb1 cb2 cb3 cb4 rn sn cn0 cn1 cn2 cn3 cn4 ru su cu0 cu1 cu2 cu3 cu4 rk sk ck0 ck1 ck2 ck3 ck4 fk0 fk1 fk2 fk3 fk4
 obtain ⟨hB,rx,ry,ra,rb,rn,ru,rk⟩:=stp
 obtain ⟨sx,cx0,cx1,cx2,cx3,cx4,cx5,cx6,cx7⟩:=Fx _ rx
 obtain ⟨sy,cy0,cy1,cy2,cy3,cy4,cy5,cy6,cy7⟩:=Fy _ ry
 obtain ⟨sa,ca0,ca1,ca2,ca3,ca4⟩:=RF5 ra
 obtain ⟨sb,cb0,cb1,cb2,cb3,cb4⟩:=RF5 rb
 obtain ⟨sn,cn0,cn1,cn2,cn3,cn4⟩:=RF5 rn
 obtain ⟨su,cu0,cu1,cu2,cu3,cu4⟩:=RF5 ru
 obtain ⟨sk,ck0,ck1,ck2,ck3,ck4,fk0,fk1,fk2,fk3,fk4⟩:=RFz5 rk
 go_wp2_with fail
 have dk_t:W11.heap.size<W13.heap.size:=by omega
 have sB:=hB.size
 refine wp_cut (fun X=>Below w.heap.size w X∧Row X w.heap.size (.cells #[.int .i64 c0,.int .i64 r0,.int .i64 (x 0),.int .i64 (x 1),.int .i64 (x 2),.int .i64 (x 3),.int .i64 (x 4),.int .i64 (x 5)] 24)∧Row X (w.heap.size+1) (.cells #[.int .i64 c1,.int .i64 r1,.int .i64 (y 0),.int .i64 (y 1),.int .i64 (y 2),.int .i64 (y 3),.int .i64 (y 4),.int .i64 (y 5)] 24)∧Row X W3.heap.size (.cells #[.string (S A.c.num),.string (S (A.c.den:Int)),.slice pa A.t.length ca,.string (S A.r.num),.string (S (A.r.den:Int))] 30)∧Row X W5.heap.size (.cells #[.string (S B.c.num),.string (S (B.c.den:Int)),.slice pb B.t.length cb,.string (S B.r.num),.string (S (B.r.den:Int))] 30)∧Row X W7.heap.size (.cells #[.string (S z.num),.string (S (z.den:Int)),.slice pn 0 cn,.string (S rr.num),.string (S (rr.den:Int))] 30)∧Row X W9.heap.size (.cells #[.string (S U.c.num),.string (S (U.c.den:Int)),.slice pu U.t.length cu,.string (S U.r.num),.string (S (U.r.den:Int))] 30)∧Row X W11.heap.size (.cells #[.string (S A.c.num),.string (S (A.c.den:Int)),.slice pk A.t.length ck,.string (S A.r.num),.string (S (A.r.den:Int))] 30)∧Row X W13.heap.size (.cells #[.string (S rr.num),.string (S (rr.den:Int))] 27)∧TAt 51 X pa A.t∧TAt 51 X pb B.t∧TAt 51 X pu U.t∧TAt 51 X pk A.t) ⟨BW,RW8,RW8,RW8,RW8,RW8,RW8,RW8,RW8,TW,TW,TW,TW⟩ ?_
 clear rx
 clear sx cx0 cx1 cx2 cx3 cx4 cx5 cx6 cx7
 clear ry
 clear sy cy0 cy1 cy2 cy3 cy4 cy5 cy6 cy7
 clear ra
 clear sa ca0 ca1 ca2 ca3 ca4
 clear rb
 clear sb cb0 cb1 cb2 cb3 cb4
 clear rn
 clear sn cn0 cn1 cn2 cn3 cn4
 clear ru
 clear su cu0 cu1 cu2 cu3 cu4
 clear rk
 clear sk ck0 ck1 ck2 ck3 ck4 fk0 fk1 fk2 fk3 fk4
 clear hB sB hA hBt hU hK
 rintro V14 ⟨hB,rx,ry,ra,rb,rn,ru,rk,rt,hA,hBt,hU,hK⟩
 obtain ⟨sx,cx0,cx1,cx2,cx3,cx4,cx5,cx6,cx7⟩:=Fx _ rx
 obtain ⟨sy,cy0,cy1,cy2,cy3,cy4,cy5,cy6,cy7⟩:=Fy _ ry
 obtain ⟨sa,ca0,ca1,ca2,ca3,ca4⟩:=RF5 ra
 obtain ⟨sb,cb0,cb1,cb2,cb3,cb4⟩:=RF5 rb
 obtain ⟨sn,cn0,cn1,cn2,cn3,cn4⟩:=RF5 rn
 obtain ⟨su,cu0,cu1,cu2,cu3,cu4⟩:=RF5 ru
 obtain ⟨sk,ck0,ck1,ck2,ck3,ck4,fk0,fk1,fk2,fk3,fk4⟩:=RFz5 rk
 obtain ⟨st,ct0,ct1⟩:=RF2 rt
 refine wp_region_vals [.bool true,.bool true,.int .i64 0,.bool true,.bool true,.bool true,.int .i64 0,.bool true,.bool true,.bool true,.int .i64 0,.bool true,.bool true,.bool true,.int .i64 0,.bool true,.bool true,.bool true,.pointer (some ⟨W7.heap.size,2,none⟩),.slice pn 0 cn,.int .i64 0,.bool true,.bool true,.bool true,.pointer (some ⟨W7.heap.size,0,none⟩),.agg #[.string (S z.num),.string (S (z.den:Int))],.agg #[.string (S z.num),.string (S (z.den:Int))],.bool true,.bool true,.bool true,.pointer (some ⟨W7.heap.size,3,none⟩),.agg #[.string (S rr.num),.string (S (rr.den:Int))],.agg #[.string (S rr.num),.string (S (rr.den:Int))],.bool true,.bool true,.bool true,.agg #[.string (S A.c.num),.string (S (A.c.den:Int)),.slice pk A.t.length ck,.string (S A.r.num),.string (S (A.r.den:Int))],.agg #[.string (S A.c.num),.string (S (A.c.den:Int)),.slice pa A.t.length ca,.string (S A.r.num),.string (S (A.r.den:Int))],.bool true,.bool true,.bool true] (by kernel_rfl) (by kernel_rfl) rfl (allVals.cons qv0 (allVals.cons qv0 (allVals.cons qv0 (allVals.cons qv0 (allVals.cons qv0 (allVals.cons qv0 (allVals.cons qv0 (allVals.cons qv0 (allVals.cons qv0 (allVals.cons qv0 (allVals.cons qv0 (allVals.cons qv0 (allVals.cons qv0 (allVals.cons qv0 (allVals.cons qv0 (allVals.cons qv0 (allVals.cons qv0 (allVals.cons qv0 (allVals.cons qv0 (allVals.cons (qv1 fun X h=>RF5 (Row.below rn h)) (allVals.cons qv0 (allVals.cons qv0 (allVals.cons qv0 (allVals.cons qv0 (allVals.cons qv0 (allVals.cons (qv1 fun X h=>RF5 (Row.below rn h)) (allVals.cons (qv2 fun X h=>R0 X) (allVals.cons qv0 (allVals.cons qv0 (allVals.cons qv0 (allVals.cons qv0 (allVals.cons (qv1 fun X h=>RF5 (Row.below rn h)) (allVals.cons (qv1 fun X h=>RF2 (Row.below rt h)) (allVals.cons qv0 (allVals.cons qv0 (allVals.cons qv0 (allVals.cons (qv1 fun X h=>RFz5 (Row.below rk h)) (allVals.cons (qv1 fun X h=>RF5 (Row.below ra h)) (allVals.cons (qv2 fun X h=>SM X _ _ _ _ (UAt.below hK h) (UAt.below hA h)) (allVals.cons qv0 (allVals.cons qv0 trivial))))))))))))))))))))))))))))))))))))))))) ?_
 rintro W h1
 replace hA:=UAt.below hA h1
 replace hBt:=UAt.below hBt h1
 replace hU:=UAt.below hU h1
 replace hK:=UAt.below hK h1
 have stp:=St8 hB h1 rx ry ra rb rn ru rk rt;clear hB h1 rx sx cx0 cx1 cx2 cx3 cx4 cx5 cx6 cx7 ry sy cy0 cy1 cy2 cy3 cy4 cy5 cy6 cy7 ra sa ca0 ca1 ca2 ca3 ca4 rb sb cb0 cb1 cb2 cb3 cb4 rn sn cn0 cn1 cn2 cn3 cn4 ru su cu0 cu1 cu2 cu3 cu4 rk sk ck0 ck1 ck2 ck3 ck4 fk0 fk1 fk2 fk3 fk4 rt st ct0 ct1
 obtain ⟨hB,rx,ry,ra,rb,rn,ru,rk,rt⟩:=stp
 obtain ⟨sx,cx0,cx1,cx2,cx3,cx4,cx5,cx6,cx7⟩:=Fx _ rx
 obtain ⟨sy,cy0,cy1,cy2,cy3,cy4,cy5,cy6,cy7⟩:=Fy _ ry
 obtain ⟨sa,ca0,ca1,ca2,ca3,ca4⟩:=RF5 ra
 obtain ⟨sb,cb0,cb1,cb2,cb3,cb4⟩:=RF5 rb
 obtain ⟨sn,cn0,cn1,cn2,cn3,cn4⟩:=RF5 rn
 obtain ⟨su,cu0,cu1,cu2,cu3,cu4⟩:=RF5 ru
 obtain ⟨sk,ck0,ck1,ck2,ck3,ck4,fk0,fk1,fk2,fk3,fk4⟩:=RFz5 rk
 obtain ⟨st,ct0,ct1⟩:=RF2 rt
 simp only [setVals,List.setIfInBounds_toArray,List.set_cons_succ,List.set_cons_zero]
 go_wp2
 go_ret
 exact ⟨rfl,hB⟩
theorem affineCancels {c0 r0 c1 r1:Int} {x y:Nat→Int} (hc0:IsInt c0) (hr0:IsInt r0) (hx:∀ i,i<6→IsInt (x i)) (hc1:IsInt c1) (hr1:IsInt r1) (hy:∀ i,i<6→IsInt (y i)) (w:World) (he:Env w) :
  Calls Tryz.prog 4 #[.agg #[.int .i64 c0,.int .i64 r0,.int .i64 (x 0),.int .i64 (x 1),.int .i64 (x 2),.int .i64 (x 3),.int .i64 (x 4),.int .i64 (x 5)],.agg #[.int .i64 c1,.int .i64 r1,.int .i64 (y 0),.int .i64 (y 1),.int .i64 (y 2),.int .i64 (y 3),.int .i64 (y 4),.int .i64 (y 5)]] w (BoolOk true w):=by
 have oa:=mForm_ok c0 r0 x
 have ob:=mForm_ok c1 r1 y
 have da:=mf_dig c0 r0 x
 have db:=mf_dig c1 r1 y
 have la:=mForm_len c0 r0 x
 have lb:=mForm_len c1 r1 y
 have MA:=fun W=>lmade8 hc0 hr0 x hx W
 have MB:=fun W=>lmade8 hc1 hr1 y hy W
 have lu:=(lin_ok (p:=1) (q:=1) oa.src ob.src).len
 have gu:=comb_gr (mForm_gr c0 r0 x) (mForm_gr c1 r1 y) gr_one gr_one
 have du:FDig 9 (combF 1 1 (mForm c0 r0 x) (mForm c1 r1 y)):=gu.dig (by decide) (by decide) (by decide)
 generalize mForm c0 r0 x=A at *
 generalize mForm c1 r1 y=B at *
 have ou:(combF 1 1 A B).Ok:=comb_ok oa ob (by omega)
 have hsub:=sub_self_form oa
 have hback:=add_sub_form oa ob
 have l2:=(lin_ok (p:=1) (q := -1) ou.src ob.src).len
 have l3:=(lin_ok (p:=1) (q := -1) oa.src oa.src).len
 have hul:(combF 1 1 A B).t.length≤10:=Nat.le_trans lu (by omega)
 refine cancels0 (A:=A) (B:=B) (U:=combF 1 1 A B) (z:=0) (rr:=A.r+A.r) (kr:=(combF 1 (-1) (combF 1 1 A B) B).r) (rat8 (by decide +kernel)) sane8 MA MB ?_ ?_ ?_ ?_ ?_ w he
 ·intro W p c q d h1 h2 H
  have:=asub (CombF.of one_dig mone_dig da da (by decide) (by omega)) oa oa (da.mono (by decide)) (da.mono (by decide)) p c q d W h1 h2 H
  rw [hsub] at this
  exact this.mono fun e w' ⟨p',c',_,h3,h4⟩=>⟨p',c',h3,h4⟩
 ·intro W p c q d h1 h2 H
  exact aadd (CombF.of one_dig one_dig da db (by decide) (by omega)) oa ob (da.mono (by decide)) (db.mono (by decide)) p c q d W h1 h2 H
 ·intro W p c q d h1 h2 H
  have:=asub (CombF.of one_dig mone_dig du db (by decide) (by omega)) ou ob (du.mono (by decide)) (db.mono (by decide)) p c q d W h1 h2 H
  refine this.mono fun e w' ⟨p',c',h5,h3,h4⟩=>⟨p',c',?_,?_,h4⟩
  ·rw [hback.2] at h5;exact h5
  ·unfold FV at h3;rw [hback.1,hback.2] at h3;exact h3
 ·intro W H
  exact qadd da.r da.r (by decide) W H
 ·intro W p c q d h1 h2
  exact asame (by omega) p q c d W h1 h2
end Go.Proofs.YtjpkfjmmmmfeeaaGreatDoor
