/-
 AffineCovariance: the law's walk.
-/
import Derived.Test.YtjpkfjmmmmfeeaaGreatDoorKAFits
import Derived.Test.YtjpkfjmmmmfeeaaGreatDoorKExtra0
set_option linter.unusedSimpArgs false
set_option linter.unusedVariables false
set_option maxRecDepth 100000
set_option maxHeartbeats 16000000
namespace Go.Proofs.YtjpkfjmmmmfeeaaGreatDoor
open Go Go.RowKit Go.Lib Go.Shelf
attribute [local go_sem] normalQ
theorem covariance0 {A B C SB SU:Frm} {SS:List Trm} {by_ v1 v2 v3 v4 v5 p1 sq pr z0:Rat} {k g1 g2:Int} {c0 r0 c1 r1 c2 r2 fa:Int} {x y u z:Nat→Int} (hk0:0≤k) (hk1:k<41) (hg1:0≤g1) (hg2:g2≤0) (SE:∀ (W:World),Env W→Calls Tryz.prog 10 #[] W (BoolOk true W)) (MA:∀ (W:World),Calls Tryz.prog 11 #[.agg #[.int .i64 c0,.int .i64 r0,.int .i64 (x 0),.int .i64 (x 1),.int .i64 (x 2),.int .i64 (x 3),.int .i64 (x 4),.int .i64 (x 5)]] W (FIs A W)) (MB:∀ (W:World),Calls Tryz.prog 11 #[.agg #[.int .i64 c1,.int .i64 r1,.int .i64 (y 0),.int .i64 (y 1),.int .i64 (y 2),.int .i64 (y 3),.int .i64 (y 4),.int .i64 (y 5)]] W (FIs B W)) (MC:∀ (W:World),Calls Tryz.prog 11 #[.agg #[.int .i64 c2,.int .i64 r2,.int .i64 (u 0),.int .i64 (u 1),.int .i64 (u 2),.int .i64 (u 3),.int .i64 (u 4),.int .i64 (u 5)]] W (FIs C W)) (PK:∀ (W:World),Calls Tryz.prog 13 #[.int .i64 fa,.int .i64 41] W (IntIs k W)) (RB:∀ (W:World),Calls Tryz.prog 12 #[.int .i64 (k - 20),.int .i64 4] W (QIs by_ W)) (SO:∀ (W:World),Calls Tryz.prog 23 #[.agg #[.int .i64 (z 0),.int .i64 (z 1),.int .i64 (z 2),.int .i64 (z 3),.int .i64 (z 4),.int .i64 (z 5)]] W (ListRes 58 SS W)) (SC:∀ (W:World) (p:Option Addr) (c:Nat),TAt 51 W p B.t→Env W→Calls Tryz.prog 16 #[FV B p c,Q by_] W (FRes SB W)) (AD:∀ (W:World) (p:Option Addr) (c:Nat) (q:Option Addr) (d:Nat),TAt 51 W p SB.t→TAt 51 W q C.t→Env W→Calls Tryz.prog 22 #[FV SB p c,FV C q d] W (FRes SU W)) (VAB:∀ (W:World) (p:Option Addr) (c:Nat) (q:Option Addr) (d:Nat) (s:Option Addr) (m:Nat),TAt 51 W p A.t→TAt 51 W q B.t→TAt 58 W s SS→Env W→Calls Tryz.prog 24 #[FV A p c,FV B q d,.slice s SS.length m] W (CovRes v1 W)) (VBA:∀ (W:World) (p:Option Addr) (c:Nat) (q:Option Addr) (d:Nat) (s:Option Addr) (m:Nat),TAt 51 W p B.t→TAt 51 W q A.t→TAt 58 W s SS→Env W→Calls Tryz.prog 24 #[FV B p c,FV A q d,.slice s SS.length m] W (CovRes v1 W)) (VAC:∀ (W:World) (p:Option Addr) (c:Nat) (q:Option Addr) (d:Nat) (s:Option Addr) (m:Nat),TAt 51 W p A.t→TAt 51 W q C.t→TAt 58 W s SS→Env W→Calls Tryz.prog 24 #[FV A p c,FV C q d,.slice s SS.length m] W (CovRes v2 W)) (VAS:∀ (W:World) (p:Option Addr) (c:Nat) (q:Option Addr) (d:Nat) (s:Option Addr) (m:Nat),TAt 51 W p A.t→TAt 51 W q SU.t→TAt 58 W s SS→Env W→Calls Tryz.prog 24 #[FV A p c,FV SU q d,.slice s SS.length m] W (CovRes v3 W)) (VAA:∀ (W:World) (p:Option Addr) (c:Nat) (q:Option Addr) (d:Nat) (s:Option Addr) (m:Nat),TAt 51 W p A.t→TAt 51 W q A.t→TAt 58 W s SS→Env W→Calls Tryz.prog 24 #[FV A p c,FV A q d,.slice s SS.length m] W (CovRes v4 W)) (VBB:∀ (W:World) (p:Option Addr) (c:Nat) (q:Option Addr) (d:Nat) (s:Option Addr) (m:Nat),TAt 51 W p B.t→TAt 51 W q B.t→TAt 58 W s SS→Env W→Calls Tryz.prog 24 #[FV B p c,FV B q d,.slice s SS.length m] W (CovRes v5 W)) (M1:∀ (W:World),Env W→Calls Tryz.prog 18 #[Q v1,Q by_] W (QOk p1 W)) (A1:∀ (W:World),Env W→Calls Tryz.prog 20 #[Q p1,Q v2] W (QOk v3 W)) (M2:∀ (W:World),Env W→Calls Tryz.prog 18 #[Q v1,Q v1] W (QOk sq W)) (M3:∀ (W:World),Env W→Calls Tryz.prog 18 #[Q v4,Q v5] W (QOk pr W)) (R0:∀ (W:World),Calls Tryz.prog 12 #[.int .i64 0,.int .i64 1] W (QIs z0 W)) (C1:∀ (W:World),Env W→Calls Tryz.prog 25 #[Q v4,Q z0] W (CmpOk g1 W)) (C2:∀ (W:World),Env W→Calls Tryz.prog 25 #[Q sq,Q pr] W (CmpOk g2 W)) (w:World) (he:Env w):Calls Tryz.prog 5 #[.agg #[.int .i64 c0,.int .i64 r0,.int .i64 (x 0),.int .i64 (x 1),.int .i64 (x 2),.int .i64 (x 3),.int .i64 (x 4),.int .i64 (x 5)],.agg #[.int .i64 c1,.int .i64 r1,.int .i64 (y 0),.int .i64 (y 1),.int .i64 (y 2),.int .i64 (y 3),.int .i64 (y 4),.int .i64 (y 5)],.agg #[.int .i64 c2,.int .i64 r2,.int .i64 (u 0),.int .i64 (u 1),.int .i64 (u 2),.int .i64 (u 3),.int .i64 (u 4),.int .i64 (u 5)],.agg #[.int .i64 (z 0),.int .i64 (z 1),.int .i64 (z 2),.int .i64 (z 3),.int .i64 (z 4),.int .i64 (z 5)],.int .i64 fa] w (BoolOk true w):=by
 have hB:Below w.heap.size w w:=Below.refl _ _
 unfold QIs Q at RB R0
 unfold Q at SC
 unfold BoolOk at SE
 unfold BoolOk
 unfold FIs at MA MB MC
 unfold IntIs at PK
 unfold ListRes at SO
 unfold FRes at SC AD
 unfold CovRes Q at VAB VBA VAC VAS VAA VBB
 unfold QOk Q at M1 A1 M2 M3
 unfold CmpOk Q at C1 C2
 unfold FV at *
 go_enter Tryz.func5, Tryz.ntmps5
 go_wp2_with fail
 have sB:=hB.size
 refine world_cut (fun X=>Below w.heap.size w X∧Row X w.heap.size (.cells #[.int .i64 c0,.int .i64 r0,.int .i64 (x 0),.int .i64 (x 1),.int .i64 (x 2),.int .i64 (x 3),.int .i64 (x 4),.int .i64 (x 5)] 24)∧Row X (w.heap.size+1) (.cells #[.int .i64 c1,.int .i64 r1,.int .i64 (y 0),.int .i64 (y 1),.int .i64 (y 2),.int .i64 (y 3),.int .i64 (y 4),.int .i64 (y 5)] 24)∧Row X (w.heap.size+1+1) (.cells #[.int .i64 c2,.int .i64 r2,.int .i64 (u 0),.int .i64 (u 1),.int .i64 (u 2),.int .i64 (u 3),.int .i64 (u 4),.int .i64 (u 5)] 24)∧Row X (w.heap.size+1+1+1) (.cells #[.int .i64 (z 0),.int .i64 (z 1),.int .i64 (z 2),.int .i64 (z 3),.int .i64 (z 4),.int .i64 (z 5)] 22)) ⟨BW,RW8,RW8,RW8,RW8⟩ ?_
 clear hB sB
 rintro V1 ⟨hB,rx,ry,ru,rz⟩
 have Fx:∀ X,Row X w.heap.size (.cells #[.int .i64 c0,.int .i64 r0,.int .i64 (x 0),.int .i64 (x 1),.int .i64 (x 2),.int .i64 (x 3),.int .i64 (x 4),.int .i64 (x 5)] 24)→(w.heap.size<X.heap.size∧X.cell? ⟨w.heap.size,0,none⟩=some (.int .i64 c0)∧X.cell? ⟨w.heap.size,1,none⟩=some (.int .i64 r0)∧X.cell? ⟨w.heap.size,2,none⟩=some (.int .i64 (x 0))∧X.cell? ⟨w.heap.size,3,none⟩=some (.int .i64 (x 1))∧X.cell? ⟨w.heap.size,4,none⟩=some (.int .i64 (x 2))∧X.cell? ⟨w.heap.size,5,none⟩=some (.int .i64 (x 3))∧X.cell? ⟨w.heap.size,6,none⟩=some (.int .i64 (x 4))∧X.cell? ⟨w.heap.size,7,none⟩=some (.int .i64 (x 5))):=fun X h=>⟨h.1,Row.cell_at h 0 rfl,Row.cell_at h 1 rfl,Row.cell_at h 2 rfl,Row.cell_at h 3 rfl,Row.cell_at h 4 rfl,Row.cell_at h 5 rfl,Row.cell_at h 6 rfl,Row.cell_at h 7 rfl⟩
 obtain ⟨sx,cx0,cx1,cx2,cx3,cx4,cx5,cx6,cx7⟩:=Fx _ rx
 have Fy:∀ X,Row X (w.heap.size+1) (.cells #[.int .i64 c1,.int .i64 r1,.int .i64 (y 0),.int .i64 (y 1),.int .i64 (y 2),.int .i64 (y 3),.int .i64 (y 4),.int .i64 (y 5)] 24)→(w.heap.size+1<X.heap.size∧X.cell? ⟨w.heap.size+1,0,none⟩=some (.int .i64 c1)∧X.cell? ⟨w.heap.size+1,1,none⟩=some (.int .i64 r1)∧X.cell? ⟨w.heap.size+1,2,none⟩=some (.int .i64 (y 0))∧X.cell? ⟨w.heap.size+1,3,none⟩=some (.int .i64 (y 1))∧X.cell? ⟨w.heap.size+1,4,none⟩=some (.int .i64 (y 2))∧X.cell? ⟨w.heap.size+1,5,none⟩=some (.int .i64 (y 3))∧X.cell? ⟨w.heap.size+1,6,none⟩=some (.int .i64 (y 4))∧X.cell? ⟨w.heap.size+1,7,none⟩=some (.int .i64 (y 5))):=fun X h=>⟨h.1,Row.cell_at h 0 rfl,Row.cell_at h 1 rfl,Row.cell_at h 2 rfl,Row.cell_at h 3 rfl,Row.cell_at h 4 rfl,Row.cell_at h 5 rfl,Row.cell_at h 6 rfl,Row.cell_at h 7 rfl⟩
 obtain ⟨sy,cy0,cy1,cy2,cy3,cy4,cy5,cy6,cy7⟩:=Fy _ ry
 have Fu:∀ X,Row X (w.heap.size+1+1) (.cells #[.int .i64 c2,.int .i64 r2,.int .i64 (u 0),.int .i64 (u 1),.int .i64 (u 2),.int .i64 (u 3),.int .i64 (u 4),.int .i64 (u 5)] 24)→(w.heap.size+1+1<X.heap.size∧X.cell? ⟨w.heap.size+1+1,0,none⟩=some (.int .i64 c2)∧X.cell? ⟨w.heap.size+1+1,1,none⟩=some (.int .i64 r2)∧X.cell? ⟨w.heap.size+1+1,2,none⟩=some (.int .i64 (u 0))∧X.cell? ⟨w.heap.size+1+1,3,none⟩=some (.int .i64 (u 1))∧X.cell? ⟨w.heap.size+1+1,4,none⟩=some (.int .i64 (u 2))∧X.cell? ⟨w.heap.size+1+1,5,none⟩=some (.int .i64 (u 3))∧X.cell? ⟨w.heap.size+1+1,6,none⟩=some (.int .i64 (u 4))∧X.cell? ⟨w.heap.size+1+1,7,none⟩=some (.int .i64 (u 5))):=fun X h=>⟨h.1,Row.cell_at h 0 rfl,Row.cell_at h 1 rfl,Row.cell_at h 2 rfl,Row.cell_at h 3 rfl,Row.cell_at h 4 rfl,Row.cell_at h 5 rfl,Row.cell_at h 6 rfl,Row.cell_at h 7 rfl⟩
 obtain ⟨su,cu0,cu1,cu2,cu3,cu4,cu5,cu6,cu7⟩:=Fu _ ru
 obtain ⟨sz,cz0,cz1,cz2,cz3,cz4,cz5⟩:=RF6 rz
 refine (SE _ (he.below hB)).mono ?_
 rintro e W2 ⟨rfl,h1⟩
 have stp:=St4 hB h1 rx ry ru rz;clear hB h1 rx sx cx0 cx1 cx2 cx3 cx4 cx5 cx6 cx7 ry sy cy0 cy1 cy2 cy3 cy4 cy5 cy6 cy7 ru su cu0 cu1 cu2 cu3 cu4 cu5 cu6 cu7 rz sz cz0 cz1 cz2 cz3 cz4 cz5
 obtain ⟨hB,rx,ry,ru,rz⟩:=stp
 obtain ⟨sx,cx0,cx1,cx2,cx3,cx4,cx5,cx6,cx7⟩:=Fx _ rx
 obtain ⟨sy,cy0,cy1,cy2,cy3,cy4,cy5,cy6,cy7⟩:=Fy _ ry
 obtain ⟨su,cu0,cu1,cu2,cu3,cu4,cu5,cu6,cu7⟩:=Fu _ ru
 obtain ⟨sz,cz0,cz1,cz2,cz3,cz4,cz5⟩:=RF6 rz
 go_wp2_with fail
 clear rx
 clear sx cx0 cx1 cx2 cx3 cx4 cx5 cx6 cx7
 clear Fx
 refine (MA _).mono ?_
 rintro e W3 ⟨pa,ca,hA,rfl,h1⟩
 have stp:=St3 hB h1 ry ru rz;clear hB h1 ry sy cy0 cy1 cy2 cy3 cy4 cy5 cy6 cy7 ru su cu0 cu1 cu2 cu3 cu4 cu5 cu6 cu7 rz sz cz0 cz1 cz2 cz3 cz4 cz5
 obtain ⟨hB,ry,ru,rz⟩:=stp
 obtain ⟨sy,cy0,cy1,cy2,cy3,cy4,cy5,cy6,cy7⟩:=Fy _ ry
 obtain ⟨su,cu0,cu1,cu2,cu3,cu4,cu5,cu6,cu7⟩:=Fu _ ru
 obtain ⟨sz,cz0,cz1,cz2,cz3,cz4,cz5⟩:=RF6 rz
 go_wp2_with fail
 clear Fy
 have sB:=hB.size
 refine world_cut (fun X=>Below w.heap.size w X∧Row X (w.heap.size+1+1) (.cells #[.int .i64 c2,.int .i64 r2,.int .i64 (u 0),.int .i64 (u 1),.int .i64 (u 2),.int .i64 (u 3),.int .i64 (u 4),.int .i64 (u 5)] 24)∧Row X (w.heap.size+1+1+1) (.cells #[.int .i64 (z 0),.int .i64 (z 1),.int .i64 (z 2),.int .i64 (z 3),.int .i64 (z 4),.int .i64 (z 5)] 22)∧Row X W3.heap.size (.cells #[.string (S A.c.num),.string (S (A.c.den:Int)),.slice pa A.t.length ca,.string (S A.r.num),.string (S (A.r.den:Int))] 30)∧TAt 51 X pa A.t) ⟨BW,RW8,RW8,RW8,TW⟩ ?_
 clear ry
 clear sy cy0 cy1 cy2 cy3 cy4 cy5 cy6 cy7
 clear ru
 clear su cu0 cu1 cu2 cu3 cu4 cu5 cu6 cu7
 clear rz
 clear sz cz0 cz1 cz2 cz3 cz4 cz5
 clear hB sB hA
 rintro V4 ⟨hB,ru,rz,ra,hA⟩
 obtain ⟨su,cu0,cu1,cu2,cu3,cu4,cu5,cu6,cu7⟩:=Fu _ ru
 obtain ⟨sz,cz0,cz1,cz2,cz3,cz4,cz5⟩:=RF6 rz
 obtain ⟨sa,ca0,ca1,ca2,ca3,ca4⟩:=RF5 ra
 refine (MB _).mono ?_
 rintro e W5 ⟨pb,cb,hBt,rfl,h1⟩
 replace hA:=UAt.below hA h1
 have stp:=St3 hB h1 ru rz ra;clear hB h1 ru su cu0 cu1 cu2 cu3 cu4 cu5 cu6 cu7 rz sz cz0 cz1 cz2 cz3 cz4 cz5 ra sa ca0 ca1 ca2 ca3 ca4
 obtain ⟨hB,ru,rz,ra⟩:=stp
 obtain ⟨su,cu0,cu1,cu2,cu3,cu4,cu5,cu6,cu7⟩:=Fu _ ru
 obtain ⟨sz,cz0,cz1,cz2,cz3,cz4,cz5⟩:=RF6 rz
 obtain ⟨sa,ca0,ca1,ca2,ca3,ca4⟩:=RF5 ra
 go_wp2_with fail
 clear Fu
 have sB:=hB.size
 refine world_cut (fun X=>Below w.heap.size w X∧Row X (w.heap.size+1+1+1) (.cells #[.int .i64 (z 0),.int .i64 (z 1),.int .i64 (z 2),.int .i64 (z 3),.int .i64 (z 4),.int .i64 (z 5)] 22)∧Row X W3.heap.size (.cells #[.string (S A.c.num),.string (S (A.c.den:Int)),.slice pa A.t.length ca,.string (S A.r.num),.string (S (A.r.den:Int))] 30)∧Row X W5.heap.size (.cells #[.string (S B.c.num),.string (S (B.c.den:Int)),.slice pb B.t.length cb,.string (S B.r.num),.string (S (B.r.den:Int))] 30)∧TAt 51 X pa A.t∧TAt 51 X pb B.t) ⟨BW,RW8,RW8,RW8,TW,TW⟩ ?_
 clear ru
 clear su cu0 cu1 cu2 cu3 cu4 cu5 cu6 cu7
 clear rz
 clear sz cz0 cz1 cz2 cz3 cz4 cz5
 clear ra
 clear sa ca0 ca1 ca2 ca3 ca4
 clear hB sB hA hBt
 rintro V6 ⟨hB,rz,ra,rb,hA,hBt⟩
 obtain ⟨sz,cz0,cz1,cz2,cz3,cz4,cz5⟩:=RF6 rz
 obtain ⟨sa,ca0,ca1,ca2,ca3,ca4⟩:=RF5 ra
 obtain ⟨sb,cb0,cb1,cb2,cb3,cb4⟩:=RF5 rb
 refine (MC _).mono ?_
 rintro e W7 ⟨pc,cc,hC,rfl,h1⟩
 replace hA:=UAt.below hA h1
 replace hBt:=UAt.below hBt h1
 have stp:=St3 hB h1 rz ra rb;clear hB h1 rz sz cz0 cz1 cz2 cz3 cz4 cz5 ra sa ca0 ca1 ca2 ca3 ca4 rb sb cb0 cb1 cb2 cb3 cb4
 obtain ⟨hB,rz,ra,rb⟩:=stp
 obtain ⟨sz,cz0,cz1,cz2,cz3,cz4,cz5⟩:=RF6 rz
 obtain ⟨sa,ca0,ca1,ca2,ca3,ca4⟩:=RF5 ra
 obtain ⟨sb,cb0,cb1,cb2,cb3,cb4⟩:=RF5 rb
 go_wp2_with fail
 have sB:=hB.size
 refine world_cut (fun X=>Below w.heap.size w X∧Row X (w.heap.size+1+1+1) (.cells #[.int .i64 (z 0),.int .i64 (z 1),.int .i64 (z 2),.int .i64 (z 3),.int .i64 (z 4),.int .i64 (z 5)] 22)∧Row X W3.heap.size (.cells #[.string (S A.c.num),.string (S (A.c.den:Int)),.slice pa A.t.length ca,.string (S A.r.num),.string (S (A.r.den:Int))] 30)∧Row X W5.heap.size (.cells #[.string (S B.c.num),.string (S (B.c.den:Int)),.slice pb B.t.length cb,.string (S B.r.num),.string (S (B.r.den:Int))] 30)∧Row X W7.heap.size (.cells #[.string (S C.c.num),.string (S (C.c.den:Int)),.slice pc C.t.length cc,.string (S C.r.num),.string (S (C.r.den:Int))] 30)∧TAt 51 X pa A.t∧TAt 51 X pb B.t∧TAt 51 X pc C.t) ⟨BW,RW8,RW8,RW8,RW8,TW,TW,TW⟩ ?_
 clear rz
 clear sz cz0 cz1 cz2 cz3 cz4 cz5
 clear ra
 clear sa ca0 ca1 ca2 ca3 ca4
 clear rb
 clear sb cb0 cb1 cb2 cb3 cb4
 clear hB sB hA hBt hC
 rintro V8 ⟨hB,rz,ra,rb,rc,hA,hBt,hC⟩
 obtain ⟨sz,cz0,cz1,cz2,cz3,cz4,cz5⟩:=RF6 rz
 obtain ⟨sa,ca0,ca1,ca2,ca3,ca4⟩:=RF5 ra
 obtain ⟨sb,cb0,cb1,cb2,cb3,cb4⟩:=RF5 rb
 obtain ⟨sc,cc0,cc1,cc2,cc3,cc4⟩:=RF5 rc
 refine (PK _).mono ?_
 rintro e W9 ⟨rfl,h1⟩
 replace hA:=UAt.below hA h1
 replace hBt:=UAt.below hBt h1
 replace hC:=UAt.below hC h1
 have stp:=St4 hB h1 rz ra rb rc;clear hB h1 rz sz cz0 cz1 cz2 cz3 cz4 cz5 ra sa ca0 ca1 ca2 ca3 ca4 rb sb cb0 cb1 cb2 cb3 cb4 rc sc cc0 cc1 cc2 cc3 cc4
 obtain ⟨hB,rz,ra,rb,rc⟩:=stp
 obtain ⟨sz,cz0,cz1,cz2,cz3,cz4,cz5⟩:=RF6 rz
 obtain ⟨sa,ca0,ca1,ca2,ca3,ca4⟩:=RF5 ra
 obtain ⟨sb,cb0,cb1,cb2,cb3,cb4⟩:=RF5 rb
 obtain ⟨sc,cc0,cc1,cc2,cc3,cc4⟩:=RF5 rc
 go_wp2_with fail
 refine (RB _).mono ?_
 rintro e W10 ⟨rfl,h1⟩
 replace hA:=UAt.below hA h1
 replace hBt:=UAt.below hBt h1
 replace hC:=UAt.below hC h1
 have stp:=St4 hB h1 rz ra rb rc;clear hB h1 rz sz cz0 cz1 cz2 cz3 cz4 cz5 ra sa ca0 ca1 ca2 ca3 ca4 rb sb cb0 cb1 cb2 cb3 cb4 rc sc cc0 cc1 cc2 cc3 cc4
 obtain ⟨hB,rz,ra,rb,rc⟩:=stp
 obtain ⟨sz,cz0,cz1,cz2,cz3,cz4,cz5⟩:=RF6 rz
 obtain ⟨sa,ca0,ca1,ca2,ca3,ca4⟩:=RF5 ra
 obtain ⟨sb,cb0,cb1,cb2,cb3,cb4⟩:=RF5 rb
 obtain ⟨sc,cc0,cc1,cc2,cc3,cc4⟩:=RF5 rc
 go_wp2_with fail
 have sB:=hB.size
 refine world_cut (fun X=>Below w.heap.size w X∧Row X W3.heap.size (.cells #[.string (S A.c.num),.string (S (A.c.den:Int)),.slice pa A.t.length ca,.string (S A.r.num),.string (S (A.r.den:Int))] 30)∧Row X W5.heap.size (.cells #[.string (S B.c.num),.string (S (B.c.den:Int)),.slice pb B.t.length cb,.string (S B.r.num),.string (S (B.r.den:Int))] 30)∧Row X W7.heap.size (.cells #[.string (S C.c.num),.string (S (C.c.den:Int)),.slice pc C.t.length cc,.string (S C.r.num),.string (S (C.r.den:Int))] 30)∧Row X W10.heap.size (.cells #[.string (S by_.num),.string (S (by_.den:Int))] 27)∧TAt 51 X pa A.t∧TAt 51 X pb B.t∧TAt 51 X pc C.t) ⟨BW,RW8,RW8,RW8,RW8,TW,TW,TW⟩ ?_
 clear rz
 clear sz cz0 cz1 cz2 cz3 cz4 cz5
 clear ra
 clear sa ca0 ca1 ca2 ca3 ca4
 clear rb
 clear sb cb0 cb1 cb2 cb3 cb4
 clear rc
 clear sc cc0 cc1 cc2 cc3 cc4
 clear hB sB hA hBt hC
 rintro V11 ⟨hB,ra,rb,rc,rk,hA,hBt,hC⟩
 obtain ⟨sa,ca0,ca1,ca2,ca3,ca4⟩:=RF5 ra
 obtain ⟨sb,cb0,cb1,cb2,cb3,cb4⟩:=RF5 rb
 obtain ⟨sc,cc0,cc1,cc2,cc3,cc4⟩:=RF5 rc
 obtain ⟨sk,ck0,ck1⟩:=RF2 rk
 refine (SO _).mono ?_
 rintro e W12 ⟨ps,cs_,hS,rfl,h1⟩
 replace hA:=UAt.below hA h1
 replace hBt:=UAt.below hBt h1
 replace hC:=UAt.below hC h1
 have stp:=St4 hB h1 ra rb rc rk;clear hB h1 ra sa ca0 ca1 ca2 ca3 ca4 rb sb cb0 cb1 cb2 cb3 cb4 rc sc cc0 cc1 cc2 cc3 cc4 rk sk ck0 ck1
 obtain ⟨hB,ra,rb,rc,rk⟩:=stp
 obtain ⟨sa,ca0,ca1,ca2,ca3,ca4⟩:=RF5 ra
 obtain ⟨sb,cb0,cb1,cb2,cb3,cb4⟩:=RF5 rb
 obtain ⟨sc,cc0,cc1,cc2,cc3,cc4⟩:=RF5 rc
 obtain ⟨sk,ck0,ck1⟩:=RF2 rk
 go_wp2_with fail
 refine (SC _ _ _ hBt (he.below hB)).mono ?_
 rintro e W13 ⟨pt,ct,hT,rfl,h1⟩
 replace hA:=UAt.below hA h1
 replace hBt:=UAt.below hBt h1
 replace hC:=UAt.below hC h1
 replace hS:=UAt.below hS h1
 have stp:=St4 hB h1 ra rb rc rk;clear hB h1 ra sa ca0 ca1 ca2 ca3 ca4 rb sb cb0 cb1 cb2 cb3 cb4 rc sc cc0 cc1 cc2 cc3 cc4 rk sk ck0 ck1
 obtain ⟨hB,ra,rb,rc,rk⟩:=stp
 obtain ⟨sa,ca0,ca1,ca2,ca3,ca4⟩:=RF5 ra
 obtain ⟨sb,cb0,cb1,cb2,cb3,cb4⟩:=RF5 rb
 obtain ⟨sc,cc0,cc1,cc2,cc3,cc4⟩:=RF5 rc
 obtain ⟨sk,ck0,ck1⟩:=RF2 rk
 go_wp2_with fail
 have sB:=hB.size
 refine world_cut (fun X=>Below w.heap.size w X∧Row X W3.heap.size (.cells #[.string (S A.c.num),.string (S (A.c.den:Int)),.slice pa A.t.length ca,.string (S A.r.num),.string (S (A.r.den:Int))] 30)∧Row X W5.heap.size (.cells #[.string (S B.c.num),.string (S (B.c.den:Int)),.slice pb B.t.length cb,.string (S B.r.num),.string (S (B.r.den:Int))] 30)∧Row X W7.heap.size (.cells #[.string (S C.c.num),.string (S (C.c.den:Int)),.slice pc C.t.length cc,.string (S C.r.num),.string (S (C.r.den:Int))] 30)∧Row X W10.heap.size (.cells #[.string (S by_.num),.string (S (by_.den:Int))] 27)∧TAt 51 X pa A.t∧TAt 51 X pb B.t∧TAt 51 X pc C.t∧TAt 58 X ps SS∧TAt 51 X pt SB.t) ⟨BW,RW8,RW8,RW8,RW8,TW,TW,TW,TW,TW⟩ ?_
 clear ra
 clear sa ca0 ca1 ca2 ca3 ca4
 clear rb
 clear sb cb0 cb1 cb2 cb3 cb4
 clear rc
 clear sc cc0 cc1 cc2 cc3 cc4
 clear rk
 clear sk ck0 ck1
 clear hB sB hA hBt hC hS hT
 rintro V14 ⟨hB,ra,rb,rc,rk,hA,hBt,hC,hS,hT⟩
 obtain ⟨sa,ca0,ca1,ca2,ca3,ca4⟩:=RF5 ra
 obtain ⟨sb,cb0,cb1,cb2,cb3,cb4⟩:=RF5 rb
 obtain ⟨sc,cc0,cc1,cc2,cc3,cc4⟩:=RF5 rc
 obtain ⟨sk,ck0,ck1⟩:=RF2 rk
 refine (AD _ _ _ _ _ hT hC (he.below hB)).mono ?_
 rintro e W15 ⟨pu,cu,hU,rfl,h1⟩
 replace hA:=UAt.below hA h1
 replace hBt:=UAt.below hBt h1
 replace hC:=UAt.below hC h1
 replace hS:=UAt.below hS h1
 replace hT:=UAt.below hT h1
 have stp:=St4 hB h1 ra rb rc rk;clear hB h1 ra sa ca0 ca1 ca2 ca3 ca4 rb sb cb0 cb1 cb2 cb3 cb4 rc sc cc0 cc1 cc2 cc3 cc4 rk sk ck0 ck1
 obtain ⟨hB,ra,rb,rc,rk⟩:=stp
 obtain ⟨sa,ca0,ca1,ca2,ca3,ca4⟩:=RF5 ra
 obtain ⟨sb,cb0,cb1,cb2,cb3,cb4⟩:=RF5 rb
 obtain ⟨sc,cc0,cc1,cc2,cc3,cc4⟩:=RF5 rc
 obtain ⟨sk,ck0,ck1⟩:=RF2 rk
 go_wp2_with fail
 have sB:=hB.size
 refine world_cut (fun X=>Below w.heap.size w X∧Row X W3.heap.size (.cells #[.string (S A.c.num),.string (S (A.c.den:Int)),.slice pa A.t.length ca,.string (S A.r.num),.string (S (A.r.den:Int))] 30)∧Row X W5.heap.size (.cells #[.string (S B.c.num),.string (S (B.c.den:Int)),.slice pb B.t.length cb,.string (S B.r.num),.string (S (B.r.den:Int))] 30)∧Row X W7.heap.size (.cells #[.string (S C.c.num),.string (S (C.c.den:Int)),.slice pc C.t.length cc,.string (S C.r.num),.string (S (C.r.den:Int))] 30)∧Row X W10.heap.size (.cells #[.string (S by_.num),.string (S (by_.den:Int))] 27)∧Row X W15.heap.size (.cells #[.string (S SU.c.num),.string (S (SU.c.den:Int)),.slice pu SU.t.length cu,.string (S SU.r.num),.string (S (SU.r.den:Int))] 30)∧TAt 51 X pa A.t∧TAt 51 X pb B.t∧TAt 51 X pc C.t∧TAt 58 X ps SS∧TAt 51 X pt SB.t∧TAt 51 X pu SU.t) ⟨BW,RW8,RW8,RW8,RW8,RW8,TW,TW,TW,TW,TW,TW⟩ ?_
 clear ra
 clear sa ca0 ca1 ca2 ca3 ca4
 clear rb
 clear sb cb0 cb1 cb2 cb3 cb4
 clear rc
 clear sc cc0 cc1 cc2 cc3 cc4
 clear rk
 clear sk ck0 ck1
 clear hB sB hA hBt hC hS hT hU
 rintro V16 ⟨hB,ra,rb,rc,rk,rd,hA,hBt,hC,hS,hT,hU⟩
 obtain ⟨sa,ca0,ca1,ca2,ca3,ca4⟩:=RF5 ra
 obtain ⟨sb,cb0,cb1,cb2,cb3,cb4⟩:=RF5 rb
 obtain ⟨sc,cc0,cc1,cc2,cc3,cc4⟩:=RF5 rc
 obtain ⟨sk,ck0,ck1⟩:=RF2 rk
 obtain ⟨sd,cd0,cd1,cd2,cd3,cd4⟩:=RF5 rd
 refine (VAB _ _ _ _ _ _ _ hA hBt hS (he.below hB)).mono ?_
 rintro e W17 ⟨rfl,h1⟩
 replace hA:=UAt.below hA h1
 replace hBt:=UAt.below hBt h1
 replace hC:=UAt.below hC h1
 replace hS:=UAt.below hS h1
 replace hT:=UAt.below hT h1
 replace hU:=UAt.below hU h1
 have stp:=St5 hB h1 ra rb rc rk rd;clear hB h1 ra sa ca0 ca1 ca2 ca3 ca4 rb sb cb0 cb1 cb2 cb3 cb4 rc sc cc0 cc1 cc2 cc3 cc4 rk sk ck0 ck1 rd sd cd0 cd1 cd2 cd3 cd4
 obtain ⟨hB,ra,rb,rc,rk,rd⟩:=stp
 obtain ⟨sa,ca0,ca1,ca2,ca3,ca4⟩:=RF5 ra
 obtain ⟨sb,cb0,cb1,cb2,cb3,cb4⟩:=RF5 rb
 obtain ⟨sc,cc0,cc1,cc2,cc3,cc4⟩:=RF5 rc
 obtain ⟨sk,ck0,ck1⟩:=RF2 rk
 obtain ⟨sd,cd0,cd1,cd2,cd3,cd4⟩:=RF5 rd
 go_wp2_with fail
 have sB:=hB.size
 refine world_cut (fun X=>Below w.heap.size w X∧Row X W3.heap.size (.cells #[.string (S A.c.num),.string (S (A.c.den:Int)),.slice pa A.t.length ca,.string (S A.r.num),.string (S (A.r.den:Int))] 30)∧Row X W5.heap.size (.cells #[.string (S B.c.num),.string (S (B.c.den:Int)),.slice pb B.t.length cb,.string (S B.r.num),.string (S (B.r.den:Int))] 30)∧Row X W7.heap.size (.cells #[.string (S C.c.num),.string (S (C.c.den:Int)),.slice pc C.t.length cc,.string (S C.r.num),.string (S (C.r.den:Int))] 30)∧Row X W10.heap.size (.cells #[.string (S by_.num),.string (S (by_.den:Int))] 27)∧Row X W15.heap.size (.cells #[.string (S SU.c.num),.string (S (SU.c.den:Int)),.slice pu SU.t.length cu,.string (S SU.r.num),.string (S (SU.r.den:Int))] 30)∧Row X W17.heap.size (.cells #[.string (S v1.num),.string (S (v1.den:Int))] 27)∧TAt 51 X pa A.t∧TAt 51 X pb B.t∧TAt 51 X pc C.t∧TAt 58 X ps SS∧TAt 51 X pt SB.t∧TAt 51 X pu SU.t) ⟨BW,RW8,RW8,RW8,RW8,RW8,RW8,TW,TW,TW,TW,TW,TW⟩ ?_
 clear ra
 clear sa ca0 ca1 ca2 ca3 ca4
 clear rb
 clear sb cb0 cb1 cb2 cb3 cb4
 clear rc
 clear sc cc0 cc1 cc2 cc3 cc4
 clear rk
 clear sk ck0 ck1
 clear rd
 clear sd cd0 cd1 cd2 cd3 cd4
 clear hB sB hA hBt hC hS hT hU
 rintro V18 ⟨hB,ra,rb,rc,rk,rd,re,hA,hBt,hC,hS,hT,hU⟩
 obtain ⟨sa,ca0,ca1,ca2,ca3,ca4⟩:=RF5 ra
 obtain ⟨sb,cb0,cb1,cb2,cb3,cb4⟩:=RF5 rb
 obtain ⟨sc,cc0,cc1,cc2,cc3,cc4⟩:=RF5 rc
 obtain ⟨sk,ck0,ck1⟩:=RF2 rk
 obtain ⟨sd,cd0,cd1,cd2,cd3,cd4⟩:=RF5 rd
 obtain ⟨se,ce0,ce1⟩:=RF2 re
 refine (VBA _ _ _ _ _ _ _ hBt hA hS (he.below hB)).mono ?_
 rintro e W19 ⟨rfl,h1⟩
 replace hA:=UAt.below hA h1
 replace hBt:=UAt.below hBt h1
 replace hC:=UAt.below hC h1
 replace hS:=UAt.below hS h1
 replace hT:=UAt.below hT h1
 replace hU:=UAt.below hU h1
 have stp:=St6 hB h1 ra rb rc rk rd re;clear hB h1 ra sa ca0 ca1 ca2 ca3 ca4 rb sb cb0 cb1 cb2 cb3 cb4 rc sc cc0 cc1 cc2 cc3 cc4 rk sk ck0 ck1 rd sd cd0 cd1 cd2 cd3 cd4 re se ce0 ce1
 obtain ⟨hB,ra,rb,rc,rk,rd,re⟩:=stp
 obtain ⟨sa,ca0,ca1,ca2,ca3,ca4⟩:=RF5 ra
 obtain ⟨sb,cb0,cb1,cb2,cb3,cb4⟩:=RF5 rb
 obtain ⟨sc,cc0,cc1,cc2,cc3,cc4⟩:=RF5 rc
 obtain ⟨sk,ck0,ck1⟩:=RF2 rk
 obtain ⟨sd,cd0,cd1,cd2,cd3,cd4⟩:=RF5 rd
 obtain ⟨se,ce0,ce1⟩:=RF2 re
 go_wp2_with fail
 have sB:=hB.size
 refine world_cut (fun X=>Below w.heap.size w X∧Row X W3.heap.size (.cells #[.string (S A.c.num),.string (S (A.c.den:Int)),.slice pa A.t.length ca,.string (S A.r.num),.string (S (A.r.den:Int))] 30)∧Row X W5.heap.size (.cells #[.string (S B.c.num),.string (S (B.c.den:Int)),.slice pb B.t.length cb,.string (S B.r.num),.string (S (B.r.den:Int))] 30)∧Row X W10.heap.size (.cells #[.string (S by_.num),.string (S (by_.den:Int))] 27)∧Row X W15.heap.size (.cells #[.string (S SU.c.num),.string (S (SU.c.den:Int)),.slice pu SU.t.length cu,.string (S SU.r.num),.string (S (SU.r.den:Int))] 30)∧Row X W17.heap.size (.cells #[.string (S v1.num),.string (S (v1.den:Int))] 27)∧Row X W19.heap.size (.cells #[.string (S v1.num),.string (S (v1.den:Int))] 27)∧TAt 51 X pa A.t∧TAt 51 X pb B.t∧TAt 51 X pc C.t∧TAt 58 X ps SS∧TAt 51 X pt SB.t∧TAt 51 X pu SU.t) ⟨BW,RW8,RW8,RW8,RW8,RW8,RW8,TW,TW,TW,TW,TW,TW⟩ ?_
 clear ra
 clear sa ca0 ca1 ca2 ca3 ca4
 clear rb
 clear sb cb0 cb1 cb2 cb3 cb4
 clear rc
 clear sc cc0 cc1 cc2 cc3 cc4
 clear rk
 clear sk ck0 ck1
 clear rd
 clear sd cd0 cd1 cd2 cd3 cd4
 clear re
 clear se ce0 ce1
 clear hB sB hA hBt hC hS hT hU
 rintro V20 ⟨hB,ra,rb,rk,rd,re,rf,hA,hBt,hC,hS,hT,hU⟩
 obtain ⟨sa,ca0,ca1,ca2,ca3,ca4⟩:=RF5 ra
 obtain ⟨sb,cb0,cb1,cb2,cb3,cb4⟩:=RF5 rb
 obtain ⟨sk,ck0,ck1⟩:=RF2 rk
 obtain ⟨sd,cd0,cd1,cd2,cd3,cd4⟩:=RF5 rd
 obtain ⟨se,ce0,ce1⟩:=RF2 re
 obtain ⟨sf,cf0,cf1⟩:=RF2 rf
 refine (VAC _ _ _ _ _ _ _ hA hC hS (he.below hB)).mono ?_
 rintro e W21 ⟨rfl,h1⟩
 replace hA:=UAt.below hA h1
 replace hBt:=UAt.below hBt h1
 replace hC:=UAt.below hC h1
 replace hS:=UAt.below hS h1
 replace hT:=UAt.below hT h1
 replace hU:=UAt.below hU h1
 have stp:=St6 hB h1 ra rb rk rd re rf;clear hB h1 ra sa ca0 ca1 ca2 ca3 ca4 rb sb cb0 cb1 cb2 cb3 cb4 rk sk ck0 ck1 rd sd cd0 cd1 cd2 cd3 cd4 re se ce0 ce1 rf sf cf0 cf1
 obtain ⟨hB,ra,rb,rk,rd,re,rf⟩:=stp
 obtain ⟨sa,ca0,ca1,ca2,ca3,ca4⟩:=RF5 ra
 obtain ⟨sb,cb0,cb1,cb2,cb3,cb4⟩:=RF5 rb
 obtain ⟨sk,ck0,ck1⟩:=RF2 rk
 obtain ⟨sd,cd0,cd1,cd2,cd3,cd4⟩:=RF5 rd
 obtain ⟨se,ce0,ce1⟩:=RF2 re
 obtain ⟨sf,cf0,cf1⟩:=RF2 rf
 go_wp2_with fail
 have sB:=hB.size
 refine world_cut (fun X=>Below w.heap.size w X∧Row X W3.heap.size (.cells #[.string (S A.c.num),.string (S (A.c.den:Int)),.slice pa A.t.length ca,.string (S A.r.num),.string (S (A.r.den:Int))] 30)∧Row X W5.heap.size (.cells #[.string (S B.c.num),.string (S (B.c.den:Int)),.slice pb B.t.length cb,.string (S B.r.num),.string (S (B.r.den:Int))] 30)∧Row X W10.heap.size (.cells #[.string (S by_.num),.string (S (by_.den:Int))] 27)∧Row X W17.heap.size (.cells #[.string (S v1.num),.string (S (v1.den:Int))] 27)∧Row X W19.heap.size (.cells #[.string (S v1.num),.string (S (v1.den:Int))] 27)∧Row X W21.heap.size (.cells #[.string (S v2.num),.string (S (v2.den:Int))] 27)∧TAt 51 X pa A.t∧TAt 51 X pb B.t∧TAt 51 X pc C.t∧TAt 58 X ps SS∧TAt 51 X pt SB.t∧TAt 51 X pu SU.t) ⟨BW,RW8,RW8,RW8,RW8,RW8,RW8,TW,TW,TW,TW,TW,TW⟩ ?_
 clear ra
 clear sa ca0 ca1 ca2 ca3 ca4
 clear rb
 clear sb cb0 cb1 cb2 cb3 cb4
 clear rk
 clear sk ck0 ck1
 clear rd
 clear sd cd0 cd1 cd2 cd3 cd4
 clear re
 clear se ce0 ce1
 clear rf
 clear sf cf0 cf1
 clear hB sB hA hBt hC hS hT hU
 rintro V22 ⟨hB,ra,rb,rk,re,rf,rg,hA,hBt,hC,hS,hT,hU⟩
 obtain ⟨sa,ca0,ca1,ca2,ca3,ca4⟩:=RF5 ra
 obtain ⟨sb,cb0,cb1,cb2,cb3,cb4⟩:=RF5 rb
 obtain ⟨sk,ck0,ck1⟩:=RF2 rk
 obtain ⟨se,ce0,ce1⟩:=RF2 re
 obtain ⟨sf,cf0,cf1⟩:=RF2 rf
 obtain ⟨sg,cg0,cg1⟩:=RF2 rg
 refine (VAS _ _ _ _ _ _ _ hA hU hS (he.below hB)).mono ?_
 rintro e W23 ⟨rfl,h1⟩
 replace hA:=UAt.below hA h1
 replace hBt:=UAt.below hBt h1
 replace hC:=UAt.below hC h1
 replace hS:=UAt.below hS h1
 replace hT:=UAt.below hT h1
 replace hU:=UAt.below hU h1
 have stp:=St6 hB h1 ra rb rk re rf rg;clear hB h1 ra sa ca0 ca1 ca2 ca3 ca4 rb sb cb0 cb1 cb2 cb3 cb4 rk sk ck0 ck1 re se ce0 ce1 rf sf cf0 cf1 rg sg cg0 cg1
 obtain ⟨hB,ra,rb,rk,re,rf,rg⟩:=stp
 obtain ⟨sa,ca0,ca1,ca2,ca3,ca4⟩:=RF5 ra
 obtain ⟨sb,cb0,cb1,cb2,cb3,cb4⟩:=RF5 rb
 obtain ⟨sk,ck0,ck1⟩:=RF2 rk
 obtain ⟨se,ce0,ce1⟩:=RF2 re
 obtain ⟨sf,cf0,cf1⟩:=RF2 rf
 obtain ⟨sg,cg0,cg1⟩:=RF2 rg
 go_wp2_with fail
 have sB:=hB.size
 refine world_cut (fun X=>Below w.heap.size w X∧Row X W5.heap.size (.cells #[.string (S B.c.num),.string (S (B.c.den:Int)),.slice pb B.t.length cb,.string (S B.r.num),.string (S (B.r.den:Int))] 30)∧Row X W10.heap.size (.cells #[.string (S by_.num),.string (S (by_.den:Int))] 27)∧Row X W17.heap.size (.cells #[.string (S v1.num),.string (S (v1.den:Int))] 27)∧Row X W19.heap.size (.cells #[.string (S v1.num),.string (S (v1.den:Int))] 27)∧Row X W21.heap.size (.cells #[.string (S v2.num),.string (S (v2.den:Int))] 27)∧Row X W23.heap.size (.cells #[.string (S v3.num),.string (S (v3.den:Int))] 27)∧TAt 51 X pa A.t∧TAt 51 X pb B.t∧TAt 51 X pc C.t∧TAt 58 X ps SS∧TAt 51 X pt SB.t∧TAt 51 X pu SU.t) ⟨BW,RW8,RW8,RW8,RW8,RW8,RW8,TW,TW,TW,TW,TW,TW⟩ ?_
 clear ra
 clear sa ca0 ca1 ca2 ca3 ca4
 clear rb
 clear sb cb0 cb1 cb2 cb3 cb4
 clear rk
 clear sk ck0 ck1
 clear re
 clear se ce0 ce1
 clear rf
 clear sf cf0 cf1
 clear rg
 clear sg cg0 cg1
 clear hB sB hA hBt hC hS hT hU
 rintro V24 ⟨hB,rb,rk,re,rf,rg,rh,hA,hBt,hC,hS,hT,hU⟩
 obtain ⟨sb,cb0,cb1,cb2,cb3,cb4⟩:=RF5 rb
 obtain ⟨sk,ck0,ck1⟩:=RF2 rk
 obtain ⟨se,ce0,ce1⟩:=RF2 re
 obtain ⟨sf,cf0,cf1⟩:=RF2 rf
 obtain ⟨sg,cg0,cg1⟩:=RF2 rg
 obtain ⟨sh,ch0,ch1⟩:=RF2 rh
 refine (VAA _ _ _ _ _ _ _ hA hA hS (he.below hB)).mono ?_
 rintro e W25 ⟨rfl,h1⟩
 replace hA:=UAt.below hA h1
 replace hBt:=UAt.below hBt h1
 replace hC:=UAt.below hC h1
 replace hS:=UAt.below hS h1
 replace hT:=UAt.below hT h1
 replace hU:=UAt.below hU h1
 have stp:=St6 hB h1 rb rk re rf rg rh;clear hB h1 rb sb cb0 cb1 cb2 cb3 cb4 rk sk ck0 ck1 re se ce0 ce1 rf sf cf0 cf1 rg sg cg0 cg1 rh sh ch0 ch1
 obtain ⟨hB,rb,rk,re,rf,rg,rh⟩:=stp
 obtain ⟨sb,cb0,cb1,cb2,cb3,cb4⟩:=RF5 rb
 obtain ⟨sk,ck0,ck1⟩:=RF2 rk
 obtain ⟨se,ce0,ce1⟩:=RF2 re
 obtain ⟨sf,cf0,cf1⟩:=RF2 rf
 obtain ⟨sg,cg0,cg1⟩:=RF2 rg
 obtain ⟨sh,ch0,ch1⟩:=RF2 rh
 go_wp2_with fail
 have sB:=hB.size
 refine world_cut (fun X=>Below w.heap.size w X∧Row X W10.heap.size (.cells #[.string (S by_.num),.string (S (by_.den:Int))] 27)∧Row X W17.heap.size (.cells #[.string (S v1.num),.string (S (v1.den:Int))] 27)∧Row X W19.heap.size (.cells #[.string (S v1.num),.string (S (v1.den:Int))] 27)∧Row X W21.heap.size (.cells #[.string (S v2.num),.string (S (v2.den:Int))] 27)∧Row X W23.heap.size (.cells #[.string (S v3.num),.string (S (v3.den:Int))] 27)∧Row X W25.heap.size (.cells #[.string (S v4.num),.string (S (v4.den:Int))] 27)∧TAt 51 X pa A.t∧TAt 51 X pb B.t∧TAt 51 X pc C.t∧TAt 58 X ps SS∧TAt 51 X pt SB.t∧TAt 51 X pu SU.t) ⟨BW,RW8,RW8,RW8,RW8,RW8,RW8,TW,TW,TW,TW,TW,TW⟩ ?_
 clear rb
 clear sb cb0 cb1 cb2 cb3 cb4
 clear rk
 clear sk ck0 ck1
 clear re
 clear se ce0 ce1
 clear rf
 clear sf cf0 cf1
 clear rg
 clear sg cg0 cg1
 clear rh
 clear sh ch0 ch1
 clear hB sB hA hBt hC hS hT hU
 rintro V26 ⟨hB,rk,re,rf,rg,rh,ri,hA,hBt,hC,hS,hT,hU⟩
 obtain ⟨sk,ck0,ck1⟩:=RF2 rk
 obtain ⟨se,ce0,ce1⟩:=RF2 re
 obtain ⟨sf,cf0,cf1⟩:=RF2 rf
 obtain ⟨sg,cg0,cg1⟩:=RF2 rg
 obtain ⟨sh,ch0,ch1⟩:=RF2 rh
 obtain ⟨si,ci0,ci1⟩:=RF2 ri
 refine (VBB _ _ _ _ _ _ _ hBt hBt hS (he.below hB)).mono ?_
 rintro e W27 ⟨rfl,h1⟩
 replace hA:=UAt.below hA h1
 replace hBt:=UAt.below hBt h1
 replace hC:=UAt.below hC h1
 replace hS:=UAt.below hS h1
 replace hT:=UAt.below hT h1
 replace hU:=UAt.below hU h1
 have stp:=St6 hB h1 rk re rf rg rh ri;clear hB h1 rk sk ck0 ck1 re se ce0 ce1 rf sf cf0 cf1 rg sg cg0 cg1 rh sh ch0 ch1 ri si ci0 ci1
 obtain ⟨hB,rk,re,rf,rg,rh,ri⟩:=stp
 obtain ⟨sk,ck0,ck1⟩:=RF2 rk
 obtain ⟨se,ce0,ce1⟩:=RF2 re
 obtain ⟨sf,cf0,cf1⟩:=RF2 rf
 obtain ⟨sg,cg0,cg1⟩:=RF2 rg
 obtain ⟨sh,ch0,ch1⟩:=RF2 rh
 obtain ⟨si,ci0,ci1⟩:=RF2 ri
 go_wp2_with fail
 have sB:=hB.size
 refine world_cut (fun X=>Below w.heap.size w X∧Row X W17.heap.size (.cells #[.string (S v1.num),.string (S (v1.den:Int))] 27)∧Row X W19.heap.size (.cells #[.string (S v1.num),.string (S (v1.den:Int))] 27)∧Row X W21.heap.size (.cells #[.string (S v2.num),.string (S (v2.den:Int))] 27)∧Row X W23.heap.size (.cells #[.string (S v3.num),.string (S (v3.den:Int))] 27)∧Row X W25.heap.size (.cells #[.string (S v4.num),.string (S (v4.den:Int))] 27)∧Row X W27.heap.size (.cells #[.string (S v5.num),.string (S (v5.den:Int))] 27)∧TAt 51 X pa A.t∧TAt 51 X pb B.t∧TAt 51 X pc C.t∧TAt 58 X ps SS∧TAt 51 X pt SB.t∧TAt 51 X pu SU.t) ⟨BW,RW8,RW8,RW8,RW8,RW8,RW8,TW,TW,TW,TW,TW,TW⟩ ?_
 clear rk
 clear sk ck0 ck1
 clear re
 clear se ce0 ce1
 clear rf
 clear sf cf0 cf1
 clear rg
 clear sg cg0 cg1
 clear rh
 clear sh ch0 ch1
 clear ri
 clear si ci0 ci1
 clear hB sB hA hBt hC hS hT hU
 rintro V28 ⟨hB,re,rf,rg,rh,ri,rj,hA,hBt,hC,hS,hT,hU⟩
 obtain ⟨se,ce0,ce1⟩:=RF2 re
 obtain ⟨sf,cf0,cf1⟩:=RF2 rf
 obtain ⟨sg,cg0,cg1⟩:=RF2 rg
 obtain ⟨sh,ch0,ch1⟩:=RF2 rh
 obtain ⟨si,ci0,ci1⟩:=RF2 ri
 obtain ⟨sj,cj0,cj1⟩:=RF2 rj
 refine (M1 _ (he.below hB)).mono ?_
 rintro e W29 ⟨rfl,h1⟩
 replace hA:=UAt.below hA h1
 replace hBt:=UAt.below hBt h1
 replace hC:=UAt.below hC h1
 replace hS:=UAt.below hS h1
 replace hT:=UAt.below hT h1
 replace hU:=UAt.below hU h1
 have stp:=St6 hB h1 re rf rg rh ri rj;clear hB h1 re se ce0 ce1 rf sf cf0 cf1 rg sg cg0 cg1 rh sh ch0 ch1 ri si ci0 ci1 rj sj cj0 cj1
 obtain ⟨hB,re,rf,rg,rh,ri,rj⟩:=stp
 obtain ⟨se,ce0,ce1⟩:=RF2 re
 obtain ⟨sf,cf0,cf1⟩:=RF2 rf
 obtain ⟨sg,cg0,cg1⟩:=RF2 rg
 obtain ⟨sh,ch0,ch1⟩:=RF2 rh
 obtain ⟨si,ci0,ci1⟩:=RF2 ri
 obtain ⟨sj,cj0,cj1⟩:=RF2 rj
 go_wp2_with fail
 have sB:=hB.size
 refine world_cut (fun X=>Below w.heap.size w X∧Row X W17.heap.size (.cells #[.string (S v1.num),.string (S (v1.den:Int))] 27)∧Row X W19.heap.size (.cells #[.string (S v1.num),.string (S (v1.den:Int))] 27)∧Row X W23.heap.size (.cells #[.string (S v3.num),.string (S (v3.den:Int))] 27)∧Row X W25.heap.size (.cells #[.string (S v4.num),.string (S (v4.den:Int))] 27)∧Row X W27.heap.size (.cells #[.string (S v5.num),.string (S (v5.den:Int))] 27)∧TAt 51 X pa A.t∧TAt 51 X pb B.t∧TAt 51 X pc C.t∧TAt 58 X ps SS∧TAt 51 X pt SB.t∧TAt 51 X pu SU.t) ⟨BW,RW8,RW8,RW8,RW8,RW8,TW,TW,TW,TW,TW,TW⟩ ?_
 clear re
 clear se ce0 ce1
 clear rf
 clear sf cf0 cf1
 clear rg
 clear sg cg0 cg1
 clear rh
 clear sh ch0 ch1
 clear ri
 clear si ci0 ci1
 clear rj
 clear sj cj0 cj1
 clear hB sB hA hBt hC hS hT hU
 rintro V30 ⟨hB,re,rf,rh,ri,rj,hA,hBt,hC,hS,hT,hU⟩
 obtain ⟨se,ce0,ce1⟩:=RF2 re
 obtain ⟨sf,cf0,cf1⟩:=RF2 rf
 obtain ⟨sh,ch0,ch1⟩:=RF2 rh
 obtain ⟨si,ci0,ci1⟩:=RF2 ri
 obtain ⟨sj,cj0,cj1⟩:=RF2 rj
 refine (A1 _ (he.below hB)).mono ?_
 rintro e W31 ⟨rfl,h1⟩
 replace hA:=UAt.below hA h1
 replace hBt:=UAt.below hBt h1
 replace hC:=UAt.below hC h1
 replace hS:=UAt.below hS h1
 replace hT:=UAt.below hT h1
 replace hU:=UAt.below hU h1
 have stp:=St5 hB h1 re rf rh ri rj;clear hB h1 re se ce0 ce1 rf sf cf0 cf1 rh sh ch0 ch1 ri si ci0 ci1 rj sj cj0 cj1
 obtain ⟨hB,re,rf,rh,ri,rj⟩:=stp
 obtain ⟨se,ce0,ce1⟩:=RF2 re
 obtain ⟨sf,cf0,cf1⟩:=RF2 rf
 obtain ⟨sh,ch0,ch1⟩:=RF2 rh
 obtain ⟨si,ci0,ci1⟩:=RF2 ri
 obtain ⟨sj,cj0,cj1⟩:=RF2 rj
 go_wp2_with fail
 have sB:=hB.size
 refine world_cut (fun X=>Below w.heap.size w X∧Row X W17.heap.size (.cells #[.string (S v1.num),.string (S (v1.den:Int))] 27)∧Row X W19.heap.size (.cells #[.string (S v1.num),.string (S (v1.den:Int))] 27)∧Row X W23.heap.size (.cells #[.string (S v3.num),.string (S (v3.den:Int))] 27)∧Row X W25.heap.size (.cells #[.string (S v4.num),.string (S (v4.den:Int))] 27)∧Row X W27.heap.size (.cells #[.string (S v5.num),.string (S (v5.den:Int))] 27)∧Row X W31.heap.size (.cells #[.string (S v3.num),.string (S (v3.den:Int))] 27)∧TAt 51 X pa A.t∧TAt 51 X pb B.t∧TAt 51 X pc C.t∧TAt 58 X ps SS∧TAt 51 X pt SB.t∧TAt 51 X pu SU.t) ⟨BW,RW8,RW8,RW8,RW8,RW8,RW8,TW,TW,TW,TW,TW,TW⟩ ?_
 clear re
 clear se ce0 ce1
 clear rf
 clear sf cf0 cf1
 clear rh
 clear sh ch0 ch1
 clear ri
 clear si ci0 ci1
 clear rj
 clear sj cj0 cj1
 clear hB sB hA hBt hC hS hT hU
 rintro V32 ⟨hB,re,rf,rh,ri,rj,rm,hA,hBt,hC,hS,hT,hU⟩
 obtain ⟨se,ce0,ce1⟩:=RF2 re
 obtain ⟨sf,cf0,cf1⟩:=RF2 rf
 obtain ⟨sh,ch0,ch1⟩:=RF2 rh
 obtain ⟨si,ci0,ci1⟩:=RF2 ri
 obtain ⟨sj,cj0,cj1⟩:=RF2 rj
 obtain ⟨sm,cm0,cm1⟩:=RF2 rm
 refine (M2 _ (he.below hB)).mono ?_
 rintro e W33 ⟨rfl,h1⟩
 replace hA:=UAt.below hA h1
 replace hBt:=UAt.below hBt h1
 replace hC:=UAt.below hC h1
 replace hS:=UAt.below hS h1
 replace hT:=UAt.below hT h1
 replace hU:=UAt.below hU h1
 have stp:=St6 hB h1 re rf rh ri rj rm;clear hB h1 re se ce0 ce1 rf sf cf0 cf1 rh sh ch0 ch1 ri si ci0 ci1 rj sj cj0 cj1 rm sm cm0 cm1
 obtain ⟨hB,re,rf,rh,ri,rj,rm⟩:=stp
 obtain ⟨se,ce0,ce1⟩:=RF2 re
 obtain ⟨sf,cf0,cf1⟩:=RF2 rf
 obtain ⟨sh,ch0,ch1⟩:=RF2 rh
 obtain ⟨si,ci0,ci1⟩:=RF2 ri
 obtain ⟨sj,cj0,cj1⟩:=RF2 rj
 obtain ⟨sm,cm0,cm1⟩:=RF2 rm
 go_wp2_with fail
 have sB:=hB.size
 refine world_cut (fun X=>Below w.heap.size w X∧Row X W17.heap.size (.cells #[.string (S v1.num),.string (S (v1.den:Int))] 27)∧Row X W19.heap.size (.cells #[.string (S v1.num),.string (S (v1.den:Int))] 27)∧Row X W23.heap.size (.cells #[.string (S v3.num),.string (S (v3.den:Int))] 27)∧Row X W25.heap.size (.cells #[.string (S v4.num),.string (S (v4.den:Int))] 27)∧Row X W31.heap.size (.cells #[.string (S v3.num),.string (S (v3.den:Int))] 27)∧Row X W33.heap.size (.cells #[.string (S sq.num),.string (S (sq.den:Int))] 27)∧TAt 51 X pa A.t∧TAt 51 X pb B.t∧TAt 51 X pc C.t∧TAt 58 X ps SS∧TAt 51 X pt SB.t∧TAt 51 X pu SU.t) ⟨BW,RW8,RW8,RW8,RW8,RW8,RW8,TW,TW,TW,TW,TW,TW⟩ ?_
 clear re
 clear se ce0 ce1
 clear rf
 clear sf cf0 cf1
 clear rh
 clear sh ch0 ch1
 clear ri
 clear si ci0 ci1
 clear rj
 clear sj cj0 cj1
 clear rm
 clear sm cm0 cm1
 clear hB sB hA hBt hC hS hT hU
 rintro V34 ⟨hB,re,rf,rh,ri,rm,rn,hA,hBt,hC,hS,hT,hU⟩
 obtain ⟨se,ce0,ce1⟩:=RF2 re
 obtain ⟨sf,cf0,cf1⟩:=RF2 rf
 obtain ⟨sh,ch0,ch1⟩:=RF2 rh
 obtain ⟨si,ci0,ci1⟩:=RF2 ri
 obtain ⟨sm,cm0,cm1⟩:=RF2 rm
 obtain ⟨sn,cn0,cn1⟩:=RF2 rn
 refine (M3 _ (he.below hB)).mono ?_
 rintro e W35 ⟨rfl,h1⟩
 replace hA:=UAt.below hA h1
 replace hBt:=UAt.below hBt h1
 replace hC:=UAt.below hC h1
 replace hS:=UAt.below hS h1
 replace hT:=UAt.below hT h1
 replace hU:=UAt.below hU h1
 have stp:=St6 hB h1 re rf rh ri rm rn;clear hB h1 re se ce0 ce1 rf sf cf0 cf1 rh sh ch0 ch1 ri si ci0 ci1 rm sm cm0 cm1 rn sn cn0 cn1
 obtain ⟨hB,re,rf,rh,ri,rm,rn⟩:=stp
 obtain ⟨se,ce0,ce1⟩:=RF2 re
 obtain ⟨sf,cf0,cf1⟩:=RF2 rf
 obtain ⟨sh,ch0,ch1⟩:=RF2 rh
 obtain ⟨si,ci0,ci1⟩:=RF2 ri
 obtain ⟨sm,cm0,cm1⟩:=RF2 rm
 obtain ⟨sn,cn0,cn1⟩:=RF2 rn
 go_wp2_with fail
 have sB:=hB.size
 refine wp_cut (fun X=>Below w.heap.size w X∧Row X W17.heap.size (.cells #[.string (S v1.num),.string (S (v1.den:Int))] 27)∧Row X W19.heap.size (.cells #[.string (S v1.num),.string (S (v1.den:Int))] 27)∧Row X W23.heap.size (.cells #[.string (S v3.num),.string (S (v3.den:Int))] 27)∧Row X W25.heap.size (.cells #[.string (S v4.num),.string (S (v4.den:Int))] 27)∧Row X W31.heap.size (.cells #[.string (S v3.num),.string (S (v3.den:Int))] 27)∧Row X W33.heap.size (.cells #[.string (S sq.num),.string (S (sq.den:Int))] 27)∧Row X W35.heap.size (.cells #[.string (S pr.num),.string (S (pr.den:Int))] 27)∧TAt 51 X pa A.t∧TAt 51 X pb B.t∧TAt 51 X pc C.t∧TAt 58 X ps SS∧TAt 51 X pt SB.t∧TAt 51 X pu SU.t) ⟨BW,RW8,RW8,RW8,RW8,RW8,RW8,RW8,TW,TW,TW,TW,TW,TW⟩ ?_
 clear re
 clear se ce0 ce1
 clear rf
 clear sf cf0 cf1
 clear rh
 clear sh ch0 ch1
 clear ri
 clear si ci0 ci1
 clear rm
 clear sm cm0 cm1
 clear rn
 clear sn cn0 cn1
 clear hB sB hA hBt hC hS hT hU
 rintro V36 ⟨hB,re,rf,rh,ri,rm,rn,ro,hA,hBt,hC,hS,hT,hU⟩
 obtain ⟨se,ce0,ce1⟩:=RF2 re
 obtain ⟨sf,cf0,cf1⟩:=RF2 rf
 obtain ⟨sh,ch0,ch1⟩:=RF2 rh
 obtain ⟨si,ci0,ci1⟩:=RF2 ri
 obtain ⟨sm,cm0,cm1⟩:=RF2 rm
 obtain ⟨sn,cn0,cn1⟩:=RF2 rn
 obtain ⟨so,co0,co1⟩:=RF2 ro
 refine wp_region_vals [.bool true,.bool true,.agg #[.string (S v1.num),.string (S (v1.den:Int))],.agg #[.string (S v1.num),.string (S (v1.den:Int))],.bool true,.bool true,.bool true,.agg #[.string (S v3.num),.string (S (v3.den:Int))],.agg #[.string (S v3.num),.string (S (v3.den:Int))],.bool true,.bool true,.bool true,.agg #[.string (S v4.num),.string (S (v4.den:Int))],.agg #[.string (S z0.num),.string (S (z0.den:Int))],.int .i64 g1,.bool true,.bool true,.bool true,.agg #[.string (S sq.num),.string (S (sq.den:Int))],.agg #[.string (S pr.num),.string (S (pr.den:Int))],.int .i64 g2,.bool true,.bool true,.bool true] (by kernel_rfl) (by kernel_rfl) rfl (allVals.cons qv0 (allVals.cons qv0 (allVals.cons (qv1 fun X h=>RF2 (Row.below re h)) (allVals.cons (qv1 fun X h=>RF2 (Row.below rf h)) (allVals.cons qv0 (allVals.cons qv0 (allVals.cons qv0 (allVals.cons (qv1 fun X h=>RF2 (Row.below rh h)) (allVals.cons (qv1 fun X h=>RF2 (Row.below rm h)) (allVals.cons qv0 (allVals.cons qv0 (allVals.cons qv0 (allVals.cons (qv1 fun X h=>RF2 (Row.below ri h)) (allVals.cons (qv2 fun X h=>R0 X) (allVals.cons (qv2 fun X h=>C1 X (he.below (hB.trans (h.mono hB.size)))) (allVals.cons (qvf hg1) (allVals.cons qv0 (allVals.cons qv0 (allVals.cons (qv1 fun X h=>RF2 (Row.below rn h)) (allVals.cons (qv1 fun X h=>RF2 (Row.below ro h)) (allVals.cons (qv2 fun X h=>C2 X (he.below (hB.trans (h.mono hB.size)))) (allVals.cons (qvf hg2) (allVals.cons qv0 (allVals.cons qv0 trivial)))))))))))))))))))))))) ?_
 rintro W h1
 replace hA:=UAt.below hA h1
 replace hBt:=UAt.below hBt h1
 replace hC:=UAt.below hC h1
 replace hS:=UAt.below hS h1
 replace hT:=UAt.below hT h1
 replace hU:=UAt.below hU h1
 have stp:=St7 hB h1 re rf rh ri rm rn ro;clear hB h1 re se ce0 ce1 rf sf cf0 cf1 rh sh ch0 ch1 ri si ci0 ci1 rm sm cm0 cm1 rn sn cn0 cn1 ro so co0 co1
 obtain ⟨hB,re,rf,rh,ri,rm,rn,ro⟩:=stp
 obtain ⟨se,ce0,ce1⟩:=RF2 re
 obtain ⟨sf,cf0,cf1⟩:=RF2 rf
 obtain ⟨sh,ch0,ch1⟩:=RF2 rh
 obtain ⟨si,ci0,ci1⟩:=RF2 ri
 obtain ⟨sm,cm0,cm1⟩:=RF2 rm
 obtain ⟨sn,cn0,cn1⟩:=RF2 rn
 obtain ⟨so,co0,co1⟩:=RF2 ro
 simp only [setVals,List.setIfInBounds_toArray,List.set_cons_succ,List.set_cons_zero]
 go_wp2
 go_ret
 exact ⟨rfl,hB⟩
theorem affineCovariance {c0 r0 c1 r1 c2 r2 fa:Int} {x y u z:Nat→Int} (hc0:IsInt c0) (hr0:IsInt r0) (hx:∀ i,i<6→IsInt (x i)) (hc1:IsInt c1) (hr1:IsInt r1) (hy:∀ i,i<6→IsInt (y i)) (hc2:IsInt c2) (hr2:IsInt r2) (hu:∀ i,i<6→IsInt (u i)) (hz:∀ i,i<6→IsInt (z i)) (hf:IsInt fa) (w:World) (he:Env w) :
  Calls Tryz.prog 5 #[.agg #[.int .i64 c0,.int .i64 r0,.int .i64 (x 0),.int .i64 (x 1),.int .i64 (x 2),.int .i64 (x 3),.int .i64 (x 4),.int .i64 (x 5)],.agg #[.int .i64 c1,.int .i64 r1,.int .i64 (y 0),.int .i64 (y 1),.int .i64 (y 2),.int .i64 (y 3),.int .i64 (y 4),.int .i64 (y 5)],.agg #[.int .i64 c2,.int .i64 r2,.int .i64 (u 0),.int .i64 (u 1),.int .i64 (u 2),.int .i64 (u 3),.int .i64 (u 4),.int .i64 (u 5)],.agg #[.int .i64 (z 0),.int .i64 (z 1),.int .i64 (z 2),.int .i64 (z 3),.int .i64 (z 4),.int .i64 (z 5)],.int .i64 fa] w (BoolOk true w):=by
 have hk0:=pk_nonneg fa (n:=41) (by decide)
 have hk1:=pk_lt fa (n:=41) (by decide)
 have PK:=fun W=>pickL8 fa 41 hf (by decide) W
 generalize pk fa 41=k at *
 have RB:=fun W=>lratio8 (n:=k - 20) (d:=4) ⟨by omega,by omega⟩ (by decide) (by decide) W
 have gby:Gr 4 20 (Rat.divInt (k - 20) 4):=Gr.ofInt (by decide) (by omega)
 generalize Rat.divInt (k - 20) 4=by_ at *
 have MA:=fun W=>lmade8 hc0 hr0 x hx W
 have MB:=fun W=>lmade8 hc1 hr1 y hy W
 have MC:=fun W=>lmade8 hc2 hr2 u hu W
 have SO:=fun W=>r8sources z hz W
 have oa:=mForm_ok c0 r0 x
 have ob:=mForm_ok c1 r1 y
 have oc:=mForm_ok c2 r2 u
 have ga:=mForm_gr c0 r0 x
 have gb:=mForm_gr c1 r1 y
 have gc:=mForm_gr c2 r2 u
 have la:=mForm_len c0 r0 x
 have lb:=mForm_len c1 r1 y
 have lc:=mForm_len c2 r2 u
 have sa:=mForm_six c0 r0 x
 have sb:=mForm_six c1 r1 y
 have sc:=mForm_six c2 r2 u
 have hS:=sTo_srcs z
 have gS:=sTo_gr z 6
 have lS:=sTo_len z 6
 have kS:=fun l h=>known_six (x:=z) (l:=l) h
 generalize mForm c0 r0 x=A at *
 generalize mForm c1 r1 y=B at *
 generalize mForm c2 r2 u=C at *
 generalize sTo z 6=SS at *
 have g0:FGr 4 80 (constF 0):=⟨(Gr.zero 4).mono (by decide),fun p hp=>(by cases hp),(Gr.zero 4).mono (by decide)⟩
 have gsb:=comb_gr gb g0 gby ((Gr.zero 4).mono (show 0≤20 by decide))
 have lsb:=Nat.le_trans (lin_ok (p:=by_) (q:=0) ob.src (const_ok 0).src).len (show B.t.length+0≤5 by omega)
 have osb:(combF by_ 0 B (constF 0)).Ok:=comb_ok ob (const_ok 0) (Nat.le_trans lsb (by decide))
 have ssb:∀ p,p ∈ (combF by_ 0 B (constF 0)).t→p.s≤6:=lin_six ob.src (const_ok 0).src (fun p hp=>(sb p hp).2) (fun p hp=>by cases hp)
 have CS:CombF by_ 0 B (constF 0):=CombF.of (j:=9) (k:=9) (gby.dig (by decide) (by decide) (by decide)) (qd (by decide +kernel)) (gb.dig (by decide) (by decide) (by decide)) (g0.dig (by decide) (by decide) (by decide)) (by decide) (Nat.le_trans lsb (by decide))
 have hcf:∀ id,cf (combF by_ 0 B (constF 0)).t id=by_ * cf B.t id:=fun id=>by
  show cf (lin by_ 0 B.t []) id=_
  rw [lin_cf ob.src SrcOk.nil,cf_nil];grind
 have lsb2:(combF by_ 0 B (constF 0)).t.length≤5:=lsb
 generalize hSB:combF by_ 0 B (constF 0)=SB at *
 have dsb:FDig 9 SB:=gsb.dig (by decide) (by decide) (by decide)
 have dc:FDig 9 C:=gc.dig (by decide) (by decide) (by decide)
 have gc16:FGr (4 * 4) (20 * 80+20 * 80) C:=⟨(gc.c.fine 4).mono (by decide),fun p hp=>((gc.t p hp).fine 4).mono (by decide),(gc.r.fine 4).mono (by decide)⟩
 have gsu:=comb_gr gsb gc16 gr_one gr_one
 have lsu:=Nat.le_trans (lin_ok (p:=1) (q:=1) osb.src oc.src).len (show SB.t.length+C.t.length≤10 by omega)
 have osu:(combF 1 1 SB C).Ok:=comb_ok osb oc (Nat.le_trans lsu (by decide))
 have ssu:∀ p,p ∈ (combF 1 1 SB C).t→p.s≤6:=lin_six osb.src oc.src ssb (fun p hp=>(sc p hp).2)
 have CU:CombF 1 1 SB C:=CombF.of (j:=9) (k:=9) one_dig one_dig dsb dc (by decide) (Nat.le_trans lsu (by decide))
 have hcf2:∀ id,cf (combF 1 1 SB C).t id=by_ * cf B.t id+1 * cf C.t id:=fun id=>by
  show cf (lin 1 1 SB.t C.t) id=_
  rw [lin_cf osb.src oc.src,hcf];grind
 generalize hSU:combF 1 1 SB C=SU at *
 have dsu:FDig 9 SU:=gsu.dig (by decide) (by decide) (by decide)
 have da:FDig 9 A:=ga.dig (by decide) (by decide) (by decide)
 have db:FDig 9 B:=gb.dig (by decide) (by decide) (by decide)
 have both:∀ {l m:List Trm},(∀ p,p ∈ l→1≤p.s∧p.s≤6)→(∀ p,p ∈ m→1≤p.s∧p.s≤6)→KnownBy SS (l ++ m):=fun h1 h2=>kS _ fun p hp=>(List.mem_append.1 hp).elim (h1 p) (h2 p)
 have su6:∀ p,p ∈ SU.t→1≤p.s∧p.s≤6:=fun p hp=>⟨(osu.src.src p hp).1,ssu p hp⟩
 have h6:SS.length≤6:=by omega
 have d1:=covTo_dig ga.t gb.t gS h6 (by decide) (by decide) (by decide)
 have d2:=covTo_dig ga.t gc.t gS h6 (by decide) (by decide) (by decide)
 have d4:=covTo_dig ga.t ga.t gS h6 (by decide) (by decide) (by decide)
 have d5:=covTo_dig gb.t gb.t gS h6 (by decide) (by decide) (by decide)
 have dby:QDig 9 by_:=gby.dig (by decide) (by decide) (by decide)
 have e3:=covTo_lin (a:=A.t) (ss:=SS) hcf2 SS.length
 have e3':covTo A.t SU.t SS SS.length=covTo A.t B.t SS SS.length * by_+covTo A.t C.t SS SS.length:=by rw [e3];grind
 have s0:∀ p,p ∈ SS→0≤p.c:=fun p hp=>(hS.unit p hp).1
 refine covariance0 (A:=A) (B:=B) (C:=C) (SB:=SB) (SU:=SU) (SS:=SS) (by_:=by_) (v1:=covTo A.t B.t SS SS.length) (v2:=covTo A.t C.t SS SS.length) (v3:=covTo A.t B.t SS SS.length * by_+covTo A.t C.t SS SS.length) (v4:=covTo A.t A.t SS SS.length) (v5:=covTo B.t B.t SS SS.length) (p1:=covTo A.t B.t SS SS.length * by_) (sq:=covTo A.t B.t SS SS.length * covTo A.t B.t SS SS.length) (pr:=covTo A.t A.t SS SS.length * covTo B.t B.t SS SS.length) (z0:=0) hk0 hk1 (cmpQ_ge.2 (covTo_nonneg (a:=A.t) s0 _ (Nat.le_refl _))) (cmpQ_le.2 (schwarz (a:=A.t) (b:=B.t) s0 _ (Nat.le_refl _))) sane8 MA MB MC PK RB SO ?_ ?_ ?_ ?_ ?_ ?_ ?_ ?_ ?_ ?_ ?_ ?_ (rat8 (by decide +kernel)) ?_ ?_ w he
 ·intro W p c h1 H;have:=ascale CS ob (db.mono (by decide)) p c W h1 H;rw [hSB] at this;exact this
 ·intro W p c q d h1 h2 H;have:=aadd CU osb oc (dsb.mono (by decide)) (dc.mono (by decide)) p c q d W h1 h2 H;rw [hSU] at this;exact this
 ·intro W p c q d s m h1 h2 h3 H;exact acov (CovF.of ga.t gb.t gS h6 (by decide) (by decide) (by decide) (by decide) (by decide) (by decide) (by decide) (by decide) (by decide) (by decide)) hS (both sa sb) oa ob (da.mono (by decide)) (db.mono (by decide)) p c q d s m W h1 h2 h3 H
 ·intro W p c q d s m h1 h2 h3 H;rw [covTo_comm];exact acov (CovF.of gb.t ga.t gS h6 (by decide) (by decide) (by decide) (by decide) (by decide) (by decide) (by decide) (by decide) (by decide) (by decide)) hS (both sb sa) ob oa (db.mono (by decide)) (da.mono (by decide)) p c q d s m W h1 h2 h3 H
 ·intro W p c q d s m h1 h2 h3 H;exact acov (CovF.of ga.t gc.t gS h6 (by decide) (by decide) (by decide) (by decide) (by decide) (by decide) (by decide) (by decide) (by decide) (by decide)) hS (both sa sc) oa oc (da.mono (by decide)) (dc.mono (by decide)) p c q d s m W h1 h2 h3 H
 ·intro W p c q d s m h1 h2 h3 H;rw [← e3'];exact acov (CovF.of ga.t gsu.t gS h6 (by decide) (by decide) (by decide) (by decide) (by decide) (by decide) (by decide) (by decide) (by decide) (by decide)) hS (both sa su6) oa osu (da.mono (by decide)) (dsu.mono (by decide)) p c q d s m W h1 h2 h3 H
 ·intro W p c q d s m h1 h2 h3 H;exact acov (CovF.of ga.t ga.t gS h6 (by decide) (by decide) (by decide) (by decide) (by decide) (by decide) (by decide) (by decide) (by decide) (by decide)) hS (both sa sa) oa oa (da.mono (by decide)) (da.mono (by decide)) p c q d s m W h1 h2 h3 H
 ·intro W p c q d s m h1 h2 h3 H;exact acov (CovF.of gb.t gb.t gS h6 (by decide) (by decide) (by decide) (by decide) (by decide) (by decide) (by decide) (by decide) (by decide) (by decide)) hS (both sb sb) ob ob (db.mono (by decide)) (db.mono (by decide)) p c q d s m W h1 h2 h3 H
 ·intro W H;exact qmul d1 dby (by decide) W H
 ·intro W H;exact qadd (j:=18) (d1.mul dby) d2 (by decide) W H
 ·intro W H;exact qmul d1 d1 (by decide) W H
 ·intro W H;exact qmul d4 d5 (by decide) W H
 ·intro W H;exact qcompare _ _ (d4.mono (by decide)) ((qd (by decide +kernel):QDig 9 0).mono (by decide)) W H
 ·intro W H;exact qcompare _ _ ((d1.mul d1).mono (by decide)) ((d4.mul d5).mono (by decide)) W H
end Go.Proofs.YtjpkfjmmmmfeeaaGreatDoor
