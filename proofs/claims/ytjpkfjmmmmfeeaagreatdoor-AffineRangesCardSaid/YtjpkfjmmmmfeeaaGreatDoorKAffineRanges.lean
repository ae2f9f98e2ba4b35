/-
 AffineRanges: the law's walk.
-/
import Derived.Test.YtjpkfjmmmmfeeaaGreatDoorKAFits
import Derived.Test.YtjpkfjmmmmfeeaaGreatDoorKAEndsPlain
import Derived.Test.YtjpkfjmmmmfeeaaGreatDoorKEValid
import Derived.Test.YtjpkfjmmmmfeeaaGreatDoorKExtra0
set_option linter.unusedSimpArgs false
set_option linter.unusedVariables false
set_option maxRecDepth 100000
set_option maxHeartbeats 16000000
namespace Go.Proofs.YtjpkfjmmmmfeeaaGreatDoor
open Go Go.RowKit Go.Lib Go.Shelf
attribute [local go_sem] normalQ
def FnIs (A:Frm) (n:Nat) (w:World) (e:Ending) (w':World):Prop:=∃ p c,TAt 51 w' p A.t∧e = .returned (.agg #[.string (S A.c.num),.string (S (A.c.den:Int)),.slice p n c,.string (S A.r.num),.string (S (A.r.den:Int))])∧Below w.heap.size w w'
def ValIs (VS:List Trm) (w:World) (e:Ending) (w':World):Prop:=∃ p c,TAt 51 w' p VS∧6≤c∧e = .returned (.slice p 6 c)∧Below w.heap.size w w'
theorem ranges0 {A:Frm} {VS VK:List Trm} {HI LO:Nat→List Trm} {x1 x2 s1 s2 u1 u2 t1 b2 z0 q1 qm:Rat} {k n:Nat} {gf:Nat→Int} {c0 r0 fa:Int} {x z:Nat→Int} (hn:A.t.length=n) (hn5:n≤5) (hk:k≤6) (H0:HI 0=[]∧LO 0=[]) (HLEN:∀ i,i≤n→(HI i).length=i∧(LO i).length=i) (HS:∀ i,i<n→gf i<0→HI (i+1)=HI i ++ [⟨(trD A.t i).s,qm⟩]∧LO (i+1)=LO i ++ [⟨(trD A.t i).s,q1⟩]) (HT:∀ i,i<n→¬ gf i<0→HI (i+1)=HI i ++ [⟨(trD A.t i).s,q1⟩]∧LO (i+1)=LO i ++ [⟨(trD A.t i).s,qm⟩]) (HAP:∀ i,i≤n→∀ ph pl,(i=0→ph=none∧pl=none)→TApart (HI i) (LO i) ph∧TApart (LO i) (HI i) pl) (R0:RatioIs 0 1 z0) (R1:RatioIs 1 1 q1) (RM:RatioIs (-1) 1 qm) (TK:∀ (W:World) (q:Option Addr),TAt 51 W q VS→TAt 51 W q VK) (SE:∀ (W:World),Env W→Calls Tryz.prog 10 #[] W (BoolOk true W)) (MA:∀ (W:World),Calls Tryz.prog 11 #[.agg #[.int .i64 c0,.int .i64 r0,.int .i64 (x 0),.int .i64 (x 1),.int .i64 (x 2),.int .i64 (x 3),.int .i64 (x 4),.int .i64 (x 5)]] W (FnIs A n W)) (VA:∀ (W:World),Calls Tryz.prog 29 #[.agg #[.int .i64 (z 0),.int .i64 (z 1),.int .i64 (z 2),.int .i64 (z 3),.int .i64 (z 4),.int .i64 (z 5)]] W (ValIs VS W)) (PK:∀ (W:World),Calls Tryz.prog 13 #[.int .i64 fa,.int .i64 7] W (IntIs (k:Int) W)) (RG:∀ (W:World) (p:Option Addr) (c:Nat),TAt 51 W p A.t→Env W→Calls Tryz.prog 26 #[.agg #[.string (S A.c.num),.string (S (A.c.den:Int)),.slice p n c,.string (S A.r.num),.string (S (A.r.den:Int))]] W (IvQ x1 x2 W)) (A0:∀ (W:World) (p:Option Addr) (c:Nat),TAt 51 W p A.t→Env W→Calls Tryz.prog 27 #[.agg #[.string (S A.c.num),.string (S (A.c.den:Int)),.slice p n c,.string (S A.r.num),.string (S (A.r.den:Int))],.slice none 0 0] W (IvQ x1 x2 W)) (A1:∀ (W:World) (p:Option Addr) (c:Nat) (q:Option Addr) (d:Nat),TAt 51 W p A.t→TAt 51 W q VK→Env W→Calls Tryz.prog 27 #[.agg #[.string (S A.c.num),.string (S (A.c.den:Int)),.slice p n c,.string (S A.r.num),.string (S (A.r.den:Int))],.slice q k d] W (IvQ s1 s2 W)) (A2:∀ (W:World) (p:Option Addr) (c:Nat) (q:Option Addr) (d:Nat),TAt 51 W p A.t→TAt 51 W q VS→Env W→Calls Tryz.prog 27 #[.agg #[.string (S A.c.num),.string (S (A.c.den:Int)),.slice p n c,.string (S A.r.num),.string (S (A.r.den:Int))],.slice q 6 d] W (IvQ u1 u2 W)) (WI1:∀ (W:World),Env W→Calls Tryz.prog 34 #[.agg #[.string (S s1.num),.string (S (s1.den:Int)),.string (S s2.num),.string (S (s2.den:Int))],.agg #[.string (S x1.num),.string (S (x1.den:Int)),.string (S x2.num),.string (S (x2.den:Int))]] W (BoolOk true W)) (WI2:∀ (W:World),Env W→Calls Tryz.prog 34 #[.agg #[.string (S u1.num),.string (S (u1.den:Int)),.string (S u2.num),.string (S (u2.den:Int))],.agg #[.string (S s1.num),.string (S (s1.den:Int)),.string (S s2.num),.string (S (s2.den:Int))]] W (BoolOk true W)) (CP:∀ (W:World) (i:Nat),i<n→Env W→Calls Tryz.prog 25 #[Q (trD A.t i).c,Q z0] W (CmpOk (gf i) W)) (A3:∀ (W:World) (p:Option Addr) (c:Nat) (q:Option Addr) (d:Nat),TAt 51 W p A.t→TAt 51 W q (HI n)→Env W→Calls Tryz.prog 27 #[.agg #[.string (S A.c.num),.string (S (A.c.den:Int)),.slice p n c,.string (S A.r.num),.string (S (A.r.den:Int))],.slice q n d] W (IvQ t1 x2 W)) (A4:∀ (W:World) (p:Option Addr) (c:Nat) (q:Option Addr) (d:Nat),TAt 51 W p A.t→TAt 51 W q (LO n)→Env W→Calls Tryz.prog 27 #[.agg #[.string (S A.c.num),.string (S (A.c.den:Int)),.slice p n c,.string (S A.r.num),.string (S (A.r.den:Int))],.slice q n d] W (IvQ x1 b2 W)) (w:World) (he:Env w):Calls Tryz.prog 8 #[.agg #[.int .i64 c0,.int .i64 r0,.int .i64 (x 0),.int .i64 (x 1),.int .i64 (x 2),.int .i64 (x 3),.int .i64 (x 4),.int .i64 (x 5)],.agg #[.int .i64 (z 0),.int .i64 (z 1),.int .i64 (z 2),.int .i64 (z 3),.int .i64 (z 4),.int .i64 (z 5)],.int .i64 fa] w (BoolOk true w):=by
 have hB:Below w.heap.size w w:=Below.refl _ _
 unfold RatioIs QIs Q at R0 R1 RM
 unfold BoolOk at SE WI1 WI2
 unfold BoolOk
 unfold FnIs at MA
 unfold ValIs at VA
 unfold IntIs at PK
 unfold IvQ at RG A0 A1 A2 A3 A4
 unfold CmpOk Q at CP
 have hk0:(0:Int)≤(k:Int):=by omega
 have hk6:(k:Int)≤6:=by omega
 have HN:=Lib.hid hn
 have HAPS:=Lib.hid HAP
 have HLENS:=Lib.hid HLEN
 have HSS:=Lib.hid HS
 have HTS:=Lib.hid HT
 clear HAP HLEN HS HT
 go_enter Tryz.func8, Tryz.ntmps8
 go_wp2_with fail
 have sB:=hB.size
 refine world_cut (fun X=>Below w.heap.size w X∧Row X w.heap.size (.cells #[.int .i64 c0,.int .i64 r0,.int .i64 (x 0),.int .i64 (x 1),.int .i64 (x 2),.int .i64 (x 3),.int .i64 (x 4),.int .i64 (x 5)] 24)∧Row X (w.heap.size+1) (.cells #[.int .i64 (z 0),.int .i64 (z 1),.int .i64 (z 2),.int .i64 (z 3),.int .i64 (z 4),.int .i64 (z 5)] 22)) ⟨BW,RW8,RW8⟩ ?_
 clear hB sB
 rintro V1 ⟨hB,rx,rz⟩
 have Fx:∀ X,Row X w.heap.size (.cells #[.int .i64 c0,.int .i64 r0,.int .i64 (x 0),.int .i64 (x 1),.int .i64 (x 2),.int .i64 (x 3),.int .i64 (x 4),.int .i64 (x 5)] 24)→(w.heap.size<X.heap.size∧X.cell? ⟨w.heap.size,0,none⟩=some (.int .i64 c0)∧X.cell? ⟨w.heap.size,1,none⟩=some (.int .i64 r0)∧X.cell? ⟨w.heap.size,2,none⟩=some (.int .i64 (x 0))∧X.cell? ⟨w.heap.size,3,none⟩=some (.int .i64 (x 1))∧X.cell? ⟨w.heap.size,4,none⟩=some (.int .i64 (x 2))∧X.cell? ⟨w.heap.size,5,none⟩=some (.int .i64 (x 3))∧X.cell? ⟨w.heap.size,6,none⟩=some (.int .i64 (x 4))∧X.cell? ⟨w.heap.size,7,none⟩=some (.int .i64 (x 5))):=fun X h=>⟨h.1,Row.cell_at h 0 rfl,Row.cell_at h 1 rfl,Row.cell_at h 2 rfl,Row.cell_at h 3 rfl,Row.cell_at h 4 rfl,Row.cell_at h 5 rfl,Row.cell_at h 6 rfl,Row.cell_at h 7 rfl⟩
 obtain ⟨sx,cx0,cx1,cx2,cx3,cx4,cx5,cx6,cx7⟩:=Fx _ rx
 obtain ⟨sz,cz0,cz1,cz2,cz3,cz4,cz5⟩:=RF6 rz
 refine (SE _ (he.below hB)).mono ?_
 rintro e W2 ⟨rfl,h1⟩
 have stp:=St2 hB h1 rx rz;clear hB h1 rx sx cx0 cx1 cx2 cx3 cx4 cx5 cx6 cx7 rz sz cz0 cz1 cz2 cz3 cz4 cz5
 obtain ⟨hB,rx,rz⟩:=stp
 obtain ⟨sx,cx0,cx1,cx2,cx3,cx4,cx5,cx6,cx7⟩:=Fx _ rx
 obtain ⟨sz,cz0,cz1,cz2,cz3,cz4,cz5⟩:=RF6 rz
 go_wp2_with fail
 clear rx
 clear sx cx0 cx1 cx2 cx3 cx4 cx5 cx6 cx7
 clear Fx
 refine (MA _).mono ?_
 rintro e W3 ⟨pa,ca,hA,rfl,h1⟩
 have stp:=St1 hB h1 rz;clear hB h1 rz sz cz0 cz1 cz2 cz3 cz4 cz5
 obtain ⟨hB,rz⟩:=stp
 obtain ⟨sz,cz0,cz1,cz2,cz3,cz4,cz5⟩:=RF6 rz
 go_wp2_with fail
 have sB:=hB.size
 refine world_cut (fun X=>Below w.heap.size w X∧Row X W3.heap.size (.cells #[.string (S A.c.num),.string (S (A.c.den:Int)),.slice pa n ca,.string (S A.r.num),.string (S (A.r.den:Int))] 30)∧TAt 51 X pa A.t) ⟨BW,RW8,TW⟩ ?_
 clear rz
 clear sz cz0 cz1 cz2 cz3 cz4 cz5
 clear hB sB hA
 rintro V4 ⟨hB,ra,hA⟩
 obtain ⟨sa,ca0,ca1,ca2,ca3,ca4⟩:=RF5 ra
 refine (VA _).mono ?_
 rintro e W5 ⟨pv,cv,hV,hc6,rfl,h1⟩
 replace hA:=UAt.below hA h1
 have stp:=St1 hB h1 ra;clear hB h1 ra sa ca0 ca1 ca2 ca3 ca4
 obtain ⟨hB,ra⟩:=stp
 obtain ⟨sa,ca0,ca1,ca2,ca3,ca4⟩:=RF5 ra
 have hkc:(k:Int)≤(cv:Int):=(by omega);have hkc2:k≤cv:=(by omega)
 go_wp2_with fail
 refine (PK _).mono ?_
 rintro e W6 ⟨rfl,h1⟩
 replace hA:=UAt.below hA h1
 replace hV:=UAt.below hV h1
 have stp:=St1 hB h1 ra;clear hB h1 ra sa ca0 ca1 ca2 ca3 ca4
 obtain ⟨hB,ra⟩:=stp
 obtain ⟨sa,ca0,ca1,ca2,ca3,ca4⟩:=RF5 ra
 go_wp2_with fail
 refine (RG _ _ _ hA (he.below hB)).mono ?_
 rintro e W7 ⟨rfl,h1⟩
 replace hA:=UAt.below hA h1
 replace hV:=UAt.below hV h1
 have stp:=St1 hB h1 ra;clear hB h1 ra sa ca0 ca1 ca2 ca3 ca4
 obtain ⟨hB,ra⟩:=stp
 obtain ⟨sa,ca0,ca1,ca2,ca3,ca4⟩:=RF5 ra
 go_wp2_with fail
 have sB:=hB.size
 refine world_cut (fun X=>Below w.heap.size w X∧Row X W3.heap.size (.cells #[.string (S A.c.num),.string (S (A.c.den:Int)),.slice pa n ca,.string (S A.r.num),.string (S (A.r.den:Int))] 30)∧Row X W7.heap.size (.cells #[.string (S x1.num),.string (S (x1.den:Int)),.string (S x2.num),.string (S (x2.den:Int))] 53)∧TAt 51 X pa A.t∧TAt 51 X pv VS) ⟨BW,RW8,RW8,TW,TW⟩ ?_
 clear ra
 clear sa ca0 ca1 ca2 ca3 ca4
 clear hB sB hA hV
 rintro V8 ⟨hB,ra,rr,hA,hV⟩
 obtain ⟨sa,ca0,ca1,ca2,ca3,ca4⟩:=RF5 ra
 obtain ⟨sr,cr0,cr1,cr2,cr3⟩:=RF4 rr
 refine (A0 _ _ _ hA (he.below hB)).mono ?_
 rintro e W9 ⟨rfl,h1⟩
 replace hA:=UAt.below hA h1
 replace hV:=UAt.below hV h1
 have stp:=St2 hB h1 ra rr;clear hB h1 ra sa ca0 ca1 ca2 ca3 ca4 rr sr cr0 cr1 cr2 cr3
 obtain ⟨hB,ra,rr⟩:=stp
 obtain ⟨sa,ca0,ca1,ca2,ca3,ca4⟩:=RF5 ra
 obtain ⟨sr,cr0,cr1,cr2,cr3⟩:=RF4 rr
 go_wp2_with fail
 have sB:=hB.size
 refine wp_cut (fun X=>Below w.heap.size w X∧Row X W3.heap.size (.cells #[.string (S A.c.num),.string (S (A.c.den:Int)),.slice pa n ca,.string (S A.r.num),.string (S (A.r.den:Int))] 30)∧Row X W7.heap.size (.cells #[.string (S x1.num),.string (S (x1.den:Int)),.string (S x2.num),.string (S (x2.den:Int))] 53)∧Row X W9.heap.size (.cells #[.string (S x1.num),.string (S (x1.den:Int)),.string (S x2.num),.string (S (x2.den:Int))] 53)∧TAt 51 X pa A.t∧TAt 51 X pv VS) ⟨BW,RW8,RW8,RW8,TW,TW⟩ ?_
 clear ra
 clear sa ca0 ca1 ca2 ca3 ca4
 clear rr
 clear sr cr0 cr1 cr2 cr3
 clear hB sB hA hV
 rintro V10 ⟨hB,ra,rr,rn,hA,hV⟩
 obtain ⟨sa,ca0,ca1,ca2,ca3,ca4⟩:=RF5 ra
 obtain ⟨sr,cr0,cr1,cr2,cr3⟩:=RF4 rr
 obtain ⟨sn,cn0,cn1,cn2,cn3⟩:=RF4 rn
 have da_m:=ra.1
 have dr_m:=rr.1
 have dn_m:=rn.1
 have d0_m:=hB.size
 refine wp_region_late 9 [7] [.val (.agg #[.string (S A.c.num),.string (S (A.c.den:Int)),.slice pa n ca,.string (S A.r.num),.string (S (A.r.den:Int))]),.val (.slice pv 6 cv),.val (.int .i64 (k:Int)),.val (.slice pv k cv),.val (.tuple #[.agg #[.string (S s1.num),.string (S (s1.den:Int)),.string (S s2.num),.string (S (s2.den:Int))],.int .i64 0]),.val (.tuple #[.agg #[.string (S s1.num),.string (S (s1.den:Int)),.string (S s2.num),.string (S (s2.den:Int))],.int .i64 0]),.val (.agg #[.string (S s1.num),.string (S (s1.den:Int)),.string (S s2.num),.string (S (s2.den:Int))]),.val (.int .i64 0),.say (fresh _ (.cells #[.string ⟨#[]⟩,.string ⟨#[]⟩,.string ⟨#[]⟩,.string ⟨#[]⟩] 53))] [15] (by kernel_rfl) (by kernel_rfl) (by kernel_rfl) rfl ⟨fresh_mono _ _,trivial⟩ (allItems.cons (qi1 fun X h=>RF5 (Row.below ra h)) (allItems.cons qi0 (allItems.cons qi0 (allItems.cons (qif hkc2) (allItems.cons (qi2 fun X h=>A1 X _ _ _ _ (UAt.below hA h) (TK _ _ (UAt.below hV h)) (he.below (hB.trans (h.mono hB.size)))) (allItems.cons qi0 (allItems.cons qi0 (allItems.cons qi0 (allItems.cons qia trivial))))))))) ?_
 rintro W h1
 replace hA:=UAt.below hA h1
 replace hV:=UAt.below hV h1
 have stp:=St3 hB h1 ra rr rn;clear hB h1 ra sa ca0 ca1 ca2 ca3 ca4 rr sr cr0 cr1 cr2 cr3 rn sn cn0 cn1 cn2 cn3
 obtain ⟨hB,ra,rr,rn⟩:=stp
 obtain ⟨sa,ca0,ca1,ca2,ca3,ca4⟩:=RF5 ra
 obtain ⟨sr,cr0,cr1,cr2,cr3⟩:=RF4 rr
 obtain ⟨sn,cn0,cn1,cn2,cn3⟩:=RF4 rn
 simp only [setItems,List.setIfInBounds_toArray,List.set_cons_succ,List.set_cons_zero,List.take_succ_cons,List.take_zero,List.drop_succ_cons,List.drop_zero]
 rintro _ ⟨pm,rfl,hm,rm⟩
 replace da_m:=Nat.lt_of_lt_of_le da_m hm
 replace dr_m:=Nat.lt_of_lt_of_le dr_m hm
 replace dn_m:=Nat.lt_of_lt_of_le dn_m hm
 replace d0_m:=Nat.le_trans d0_m hm
 obtain ⟨sm,cm0,cm1,cm2,cm3,fm0,fm1,fm2,fm3⟩:=RFz4 rm
 intro _
 go_wp2_with fail
 unfold normalQ
 go_wp2_with fail
 have sB:=hB.size
 refine world_cut (fun X=>Below w.heap.size w X∧Row X W3.heap.size (.cells #[.string (S A.c.num),.string (S (A.c.den:Int)),.slice pa n ca,.string (S A.r.num),.string (S (A.r.den:Int))] 30)∧Row X W7.heap.size (.cells #[.string (S x1.num),.string (S (x1.den:Int)),.string (S x2.num),.string (S (x2.den:Int))] 53)∧Row X W9.heap.size (.cells #[.string (S x1.num),.string (S (x1.den:Int)),.string (S x2.num),.string (S (x2.den:Int))] 53)∧Row X pm (.cells #[.string (S s1.num),.string (S (s1.den:Int)),.string (S s2.num),.string (S (s2.den:Int))] 53)∧TAt 51 X pa A.t∧TAt 51 X pv VS) ⟨BW,RW8,RW8,RW8,RW8,TW,TW⟩ ?_
 clear ra
 clear sa ca0 ca1 ca2 ca3 ca4
 clear rr
 clear sr cr0 cr1 cr2 cr3
 clear rn
 clear sn cn0 cn1 cn2 cn3
 clear rm
 clear sm cm0 cm1 cm2 cm3 fm0 fm1 fm2 fm3
 clear hB sB hA hV
 rintro V11 ⟨hB,ra,rr,rn,rm,hA,hV⟩
 obtain ⟨sa,ca0,ca1,ca2,ca3,ca4⟩:=RF5 ra
 obtain ⟨sr,cr0,cr1,cr2,cr3⟩:=RF4 rr
 obtain ⟨sn,cn0,cn1,cn2,cn3⟩:=RF4 rn
 obtain ⟨sm,cm0,cm1,cm2,cm3,fm0,fm1,fm2,fm3⟩:=RFz4 rm
 refine (A2 _ _ _ _ _ hA hV (he.below hB)).mono ?_
 rintro e W12 ⟨rfl,h1⟩
 replace hA:=UAt.below hA h1
 replace hV:=UAt.below hV h1
 have stp:=St4 hB h1 ra rr rn rm;clear hB h1 ra sa ca0 ca1 ca2 ca3 ca4 rr sr cr0 cr1 cr2 cr3 rn sn cn0 cn1 cn2 cn3 rm sm cm0 cm1 cm2 cm3 fm0 fm1 fm2 fm3
 obtain ⟨hB,ra,rr,rn,rm⟩:=stp
 obtain ⟨sa,ca0,ca1,ca2,ca3,ca4⟩:=RF5 ra
 obtain ⟨sr,cr0,cr1,cr2,cr3⟩:=RF4 rr
 obtain ⟨sn,cn0,cn1,cn2,cn3⟩:=RF4 rn
 obtain ⟨sm,cm0,cm1,cm2,cm3,fm0,fm1,fm2,fm3⟩:=RFz4 rm
 go_wp2_with fail
 have dm_e:pm<W12.heap.size:=by omega
 have sB:=hB.size
 refine world_cut (fun X=>Below w.heap.size w X∧Row X W3.heap.size (.cells #[.string (S A.c.num),.string (S (A.c.den:Int)),.slice pa n ca,.string (S A.r.num),.string (S (A.r.den:Int))] 30)∧Row X W7.heap.size (.cells #[.string (S x1.num),.string (S (x1.den:Int)),.string (S x2.num),.string (S (x2.den:Int))] 53)∧Row X W9.heap.size (.cells #[.string (S x1.num),.string (S (x1.den:Int)),.string (S x2.num),.string (S (x2.den:Int))] 53)∧Row X pm (.cells #[.string (S s1.num),.string (S (s1.den:Int)),.string (S s2.num),.string (S (s2.den:Int))] 53)∧Row X W12.heap.size (.cells #[.string (S u1.num),.string (S (u1.den:Int)),.string (S u2.num),.string (S (u2.den:Int))] 53)∧TAt 51 X pa A.t∧TAt 51 X pv VS) ⟨BW,RW8,RW8,RW8,RW8,RW8,TW,TW⟩ ?_
 clear ra
 clear sa ca0 ca1 ca2 ca3 ca4
 clear rr
 clear sr cr0 cr1 cr2 cr3
 clear rn
 clear sn cn0 cn1 cn2 cn3
 clear rm
 clear sm cm0 cm1 cm2 cm3 fm0 fm1 fm2 fm3
 clear hB sB hA hV
 rintro V13 ⟨hB,ra,rr,rn,rm,re,hA,hV⟩
 obtain ⟨sa,ca0,ca1,ca2,ca3,ca4⟩:=RF5 ra
 obtain ⟨sr,cr0,cr1,cr2,cr3⟩:=RF4 rr
 obtain ⟨sn,cn0,cn1,cn2,cn3⟩:=RF4 rn
 obtain ⟨sm,cm0,cm1,cm2,cm3,fm0,fm1,fm2,fm3⟩:=RFz4 rm
 obtain ⟨se,ce0,ce1,ce2,ce3⟩:=RF4 re
 refine (WI1 _ (he.below hB)).mono ?_
 rintro e W14 ⟨rfl,h1⟩
 replace hA:=UAt.below hA h1
 replace hV:=UAt.below hV h1
 have stp:=St5 hB h1 ra rr rn rm re;clear hB h1 ra sa ca0 ca1 ca2 ca3 ca4 rr sr cr0 cr1 cr2 cr3 rn sn cn0 cn1 cn2 cn3 rm sm cm0 cm1 cm2 cm3 fm0 fm1 fm2 fm3 re se ce0 ce1 ce2 ce3
 obtain ⟨hB,ra,rr,rn,rm,re⟩:=stp
 obtain ⟨sa,ca0,ca1,ca2,ca3,ca4⟩:=RF5 ra
 obtain ⟨sr,cr0,cr1,cr2,cr3⟩:=RF4 rr
 obtain ⟨sn,cn0,cn1,cn2,cn3⟩:=RF4 rn
 obtain ⟨sm,cm0,cm1,cm2,cm3,fm0,fm1,fm2,fm3⟩:=RFz4 rm
 obtain ⟨se,ce0,ce1,ce2,ce3⟩:=RF4 re
 go_wp2_with fail
 refine (WI2 _ (he.below hB)).mono ?_
 rintro e W15 ⟨rfl,h1⟩
 replace hA:=UAt.below hA h1
 replace hV:=UAt.below hV h1
 have stp:=St5 hB h1 ra rr rn rm re;clear hB h1 ra sa ca0 ca1 ca2 ca3 ca4 rr sr cr0 cr1 cr2 cr3 rn sn cn0 cn1 cn2 cn3 rm sm cm0 cm1 cm2 cm3 fm0 fm1 fm2 fm3 re se ce0 ce1 ce2 ce3
 obtain ⟨hB,ra,rr,rn,rm,re⟩:=stp
 obtain ⟨sa,ca0,ca1,ca2,ca3,ca4⟩:=RF5 ra
 obtain ⟨sr,cr0,cr1,cr2,cr3⟩:=RF4 rr
 obtain ⟨sn,cn0,cn1,cn2,cn3⟩:=RF4 rn
 obtain ⟨sm,cm0,cm1,cm2,cm3,fm0,fm1,fm2,fm3⟩:=RFz4 rm
 obtain ⟨se,ce0,ce1,ce2,ce3⟩:=RF4 re
 go_wp2_with fail
 have hA0:=hA
 clear hA hV
 have l_a:=ra.1
 have l_r:=rr.1
 have l_n:=rn.1
 have l_m:=rm.1
 have l_e:=re.1
 obtain ⟨n0,hn0e⟩:∃ z,z=W15.heap.size:=⟨_,rfl⟩
 rw [← hn0e] at l_a l_r l_n l_m l_e
 have hn00:n0≤W15.heap.size:=by omega
 have hwn0:w.heap.size≤n0:=by have:=hB.size;omega
 have HPL:∀ g,pa=some ⟨g,0,none⟩→0<(raws A.t).length→g<n0:=fun g e h0=>(by subst e;have:=tat_lt hA0 h0;omega)
 clear hn0e
 go_wp2_with fail
 go_loopw [19,20,21,22] (fun v19 v20 v21 v22 wr=>∃ (i ch cl:Nat) (ph pl:Option Addr),v19 = .slice ph (HI i).length ch∧v20 = .slice pl (LO i).length cl∧v21 = .int .i64 (i:Int)∧i≤n∧(i=0→ph=none∧pl=none)∧OT wr n0 ph ch (HI i)∧OT wr n0 pl cl (LO i)∧TAt 51 wr pa A.t∧n0≤wr.heap.size∧Below w.heap.size w wr∧Row wr W3.heap.size (.cells #[.string (S A.c.num),.string (S (A.c.den:Int)),.slice pa n ca,.string (S A.r.num),.string (S (A.r.den:Int))] 30)∧Row wr W7.heap.size (.cells #[.string (S x1.num),.string (S (x1.den:Int)),.string (S x2.num),.string (S (x2.den:Int))] 53)∧Row wr W9.heap.size (.cells #[.string (S x1.num),.string (S (x1.den:Int)),.string (S x2.num),.string (S (x2.den:Int))] 53)∧Row wr pm (.cells #[.string (S s1.num),.string (S (s1.den:Int)),.string (S s2.num),.string (S (s2.den:Int))] 53)∧Row wr W12.heap.size (.cells #[.string (S u1.num),.string (S (u1.den:Int)),.string (S u2.num),.string (S (u2.den:Int))] 53)) (fun _ _ v21 _ _=>(n - intOf v21).toNat)
 case atStart=>exact ⟨0,0,0,none,none,(by rw [H0.1];rfl),(by rw [H0.2];rfl),rfl,Nat.zero_le _,fun _=>⟨rfl,rfl⟩,(by rw [H0.1];exact ⟨rfl,.inl ⟨rfl,rfl⟩⟩),(by rw [H0.2];exact ⟨rfl,.inl ⟨rfl,rfl⟩⟩),hA0,hn00,hB,ra,rr,rn,rm,re⟩
 case round =>
  clear sa ca0 ca1 ca2 ca3 ca4
  clear sr cr0 cr1 cr2 cr3
  clear sn cn0 cn1 cn2 cn3
  clear sm cm0 cm1 cm2 cm3 fm0 fm1 fm2 fm3
  clear se ce0 ce1 ce2 ce3
  clear hB ra rr rn rm re
  obtain ⟨i,ch,cl,ph,pl,rfl,rfl,rfl,him,hp0,hH,hL,hA,hn0,hB,ra,rr,rn,rm,re⟩:=hrel
  clear hA0 hn00
  rcases Nat.lt_or_ge i n with hlt | hge
  ·have hi:(i:Int)<(n:Int):=by omega
   have hw1:IntKind.i64.wrap 1=1:=by decide
   have hwm:IntKind.i64.wrap (-1) = -1:=by decide
   have hlt2:i<A.t.length:=by rw [HN.out];exact hlt
   have hap:=HAPS.out i him ph pl hp0
   have hl1:=HLENS.out i him
   have hle1:(HI i).length≤100000:=by rw [hl1.1];omega
   have hle2:(LO i).length≤100000:=by rw [hl1.2];omega
   obtain ⟨x,hx⟩:∃ x,x=trD A.t i:=⟨_,rfl⟩
   have hs1:=HSS.out i hlt
   have ht1:=HTS.out i hlt
   have CPi:=fun W H=>CP W i hlt H
   rw [← hx] at hs1 ht1 CPi
   have HL1:=Lib.hid hl1
   have HS1:=Lib.hid hs1
   have HT1:=Lib.hid ht1
   clear hl1 hs1 ht1 hp0
   obtain ⟨gg,hgg⟩:∃ gg,gg=gf i:=⟨_,rfl⟩
   rw [← hgg] at HS1 HT1 CPi
   clear hgg
   obtain ⟨g,gcur,rfl,rg,g0,g1,g2⟩:=TAt.at hA hlt2
   rw [← hx] at g0 g1 g2
   clear hx
   have l_g:=HPL g rfl (by rw [raws_length];omega)
   have Fg:∀ X,Row X g (.cells gcur 51)→(g<X.heap.size∧X.cell? ⟨g,i * 3,none⟩=some (.int .i64 (x.s:Int))∧X.cell? ⟨g,i * 3+1,none⟩=some (.string (S x.c.num))∧X.cell? ⟨g,i * 3+2,none⟩=some (.string (S (x.c.den:Int)))):=fun X h=>⟨h.1,Row.cell_at h _ g0,Row.cell_at h _ g1,Row.cell_at h _ g2⟩
   obtain ⟨sg,cg0,cg1,cg2⟩:=Fg _ rg
   obtain ⟨sa,ca0,ca1,ca2,ca3,ca4⟩:=RF5 ra
   obtain ⟨sr,cr0,cr1,cr2,cr3⟩:=RF4 rr
   obtain ⟨sn,cn0,cn1,cn2,cn3⟩:=RF4 rn
   obtain ⟨sm,cm0,cm1,cm2,cm3,fm0,fm1,fm2,fm3⟩:=RFz4 rm
   obtain ⟨se,ce0,ce1,ce2,ce3⟩:=RF4 re
   rcases Int.lt_or_le gg 0 with hgl | hgl
   ·obtain ⟨e1,e2⟩:=HS1.out hgl
    have E1:=Lib.hid e1
    have E2:=Lib.hid e2
    clear e1 e2 HS1 HT1
    go_wp2_with fail
    refine wp_region_vals [.pointer (some ⟨W3.heap.size,2,none⟩),.slice (some ⟨g,0,none⟩) n ca,.int .i64 (i:Int),.pointer (some ⟨g,i * 3,none⟩),.pointer (some ⟨g,i * 3+1,none⟩),.agg #[.string (S x.c.num),.string (S (x.c.den:Int))],.agg #[.string (S z0.num),.string (S (z0.den:Int))],.int .i64 gg,.bool true] (by kernel_rfl) (by kernel_rfl) rfl (allVals.cons qv0 (allVals.cons (qv1 fun X h=>RF5 (Row.below ra h)) (allVals.cons qv0 (allVals.cons (qvf hi) (allVals.cons qv0 (allVals.cons (qv1 fun X h=>Fg X (Row.below rg h)) (allVals.cons (qv2 fun X h=>R0 X) (allVals.cons (qv2 fun X h=>CPi X (he.below (hB.trans (h.mono hB.size)))) (allVals.cons (qvf hgl) trivial))))))))) ?_
    rintro W h1
    replace hA:=UAt.below hA h1
    replace hH:=OT.later hH h1
    replace hL:=OT.later hL h1
    replace hn0:=le_below hn0 h1
    have stp:=St6 hB h1 ra rr rn rm re rg;clear hB h1 ra sa ca0 ca1 ca2 ca3 ca4 rr sr cr0 cr1 cr2 cr3 rn sn cn0 cn1 cn2 cn3 rm sm cm0 cm1 cm2 cm3 fm0 fm1 fm2 fm3 re se ce0 ce1 ce2 ce3 rg sg cg0 cg1 cg2
    obtain ⟨hB,ra,rr,rn,rm,re,rg⟩:=stp
    obtain ⟨sa,ca0,ca1,ca2,ca3,ca4⟩:=RF5 ra
    obtain ⟨sr,cr0,cr1,cr2,cr3⟩:=RF4 rr
    obtain ⟨sn,cn0,cn1,cn2,cn3⟩:=RF4 rn
    obtain ⟨sm,cm0,cm1,cm2,cm3,fm0,fm1,fm2,fm3⟩:=RFz4 rm
    obtain ⟨se,ce0,ce1,ce2,ce3⟩:=RF4 re
    obtain ⟨sg,cg0,cg1,cg2⟩:=Fg _ rg
    simp only [setVals,List.setIfInBounds_toArray,List.set_cons_succ,List.set_cons_zero]
    go_wp2_with fail
    refine wp_region_items3 11 [.val (.slice ph (HI i).length ch),.val (.pointer (some ⟨W3.heap.size,2,none⟩)),.val (.slice (some ⟨g,0,none⟩) n ca),.val (.int .i64 (i:Int)),.val (.pointer (some ⟨g,i * 3,none⟩)),.val (.pointer (some ⟨g,i * 3,none⟩)),.val (.int .i64 (x.s:Int)),.val (.int .i64 (-1)),.val (.agg #[.string (S qm.num),.string (S (qm.den:Int))]),.val (.agg #[.int .i64 (x.s:Int),.string (S qm.num),.string (S (qm.den:Int))]),.say (SayNew 1 51 #[.int .i64 (x.s:Int),.string (S qm.num),.string (S (qm.den:Int))])] [] (by kernel_rfl) (by kernel_rfl) rfl ⟨SayNew.mono _ _ _,trivial⟩ (allItems.cons qi0 (allItems.cons qi0 (allItems.cons (qi1 fun X h=>RF5 (Row.below ra h)) (allItems.cons qi0 (allItems.cons (qif hi) (allItems.cons qi0 (allItems.cons (qi1 fun X h=>Fg X (Row.below rg h)) (allItems.cons qi0 (allItems.cons (qi2 fun X h=>RM X) (allItems.cons (qif hi) (allItems.cons qin trivial))))))))))) ?_
    rintro W h1
    replace hA:=UAt.below hA h1
    replace hH:=OT.later hH h1
    replace hL:=OT.later hL h1
    replace hn0:=le_below hn0 h1
    have stp:=St6 hB h1 ra rr rn rm re rg;clear hB h1 ra sa ca0 ca1 ca2 ca3 ca4 rr sr cr0 cr1 cr2 cr3 rn sn cn0 cn1 cn2 cn3 rm sm cm0 cm1 cm2 cm3 fm0 fm1 fm2 fm3 re se ce0 ce1 ce2 ce3 rg sg cg0 cg1 cg2
    obtain ⟨hB,ra,rr,rn,rm,re,rg⟩:=stp
    obtain ⟨sa,ca0,ca1,ca2,ca3,ca4⟩:=RF5 ra
    obtain ⟨sr,cr0,cr1,cr2,cr3⟩:=RF4 rr
    obtain ⟨sn,cn0,cn1,cn2,cn3⟩:=RF4 rn
    obtain ⟨sm,cm0,cm1,cm2,cm3,fm0,fm1,fm2,fm3⟩:=RFz4 rm
    obtain ⟨se,ce0,ce1,ce2,ce3⟩:=RF4 re
    obtain ⟨sg,cg0,cg1,cg2⟩:=Fg _ rg
    simp only [setItems,List.setIfInBounds_toArray,List.set_cons_succ,List.set_cons_zero,List.take_succ_cons,List.take_zero,List.drop_succ_cons,List.drop_zero]
    rintro _ ⟨gbhH,rfl,rghH⟩
    intro _
    go_upto_region 20 with (at_builtin;refine wpl_append_term rfl (.tmp 108) (.tmp 118) rfl n0 ph ch (HI i) ⟨x.s,qm⟩ rfl hH gbhH rfl rghH hle1 (by omega) ?_;intro phH chH Y1 own9 hg9;replace hL:=TApart.kept hH hL hap.1 hg9;replace hA:=uat_grown hA HPL hH hg9;replace ra:=own_row_ne hH hg9 ra l_a;replace rr:=own_row_ne hH hg9 rr l_r;replace rn:=own_row_ne hH hg9 rn l_n;replace rm:=own_row_ne hH hg9 rm l_m;replace re:=own_row_ne hH hg9 re l_e;replace rg:=own_row_ne hH hg9 rg l_g;replace hn0:=Nat.le_trans hn0 hg9.size;replace hB:=Below.grown hB hg9 hB.size (fun k hk=>by have:=(World.ownsRow.lt hH k hk).1;omega);clear hH hg9;have hH:=own9;clear own9)
    clear sa ca0 ca1 ca2 ca3 ca4
    clear sr cr0 cr1 cr2 cr3
    clear sn cn0 cn1 cn2 cn3
    clear sm cm0 cm1 cm2 cm3 fm0 fm1 fm2 fm3
    clear se ce0 ce1 ce2 ce3
    clear sg cg0 cg1 cg2
    obtain ⟨sa,ca0,ca1,ca2,ca3,ca4⟩:=RF5 ra
    obtain ⟨sr,cr0,cr1,cr2,cr3⟩:=RF4 rr
    obtain ⟨sn,cn0,cn1,cn2,cn3⟩:=RF4 rn
    obtain ⟨sm,cm0,cm1,cm2,cm3,fm0,fm1,fm2,fm3⟩:=RFz4 rm
    obtain ⟨se,ce0,ce1,ce2,ce3⟩:=RF4 re
    obtain ⟨sg,cg0,cg1,cg2⟩:=Fg _ rg
    go_wp2_with fail
    refine wp_region_items3 12 [.val (.slice pl (LO i).length cl),.val (.pointer (some ⟨W3.heap.size,2,none⟩)),.val (.slice (some ⟨g,0,none⟩) n ca),.val (.int .i64 (i:Int)),.val (.pointer (some ⟨g,i * 3,none⟩)),.val (.pointer (some ⟨g,i * 3,none⟩)),.val (.int .i64 (x.s:Int)),.val (.int .i64 (-1)),.val (.int .i64 1),.val (.agg #[.string (S q1.num),.string (S (q1.den:Int))]),.val (.agg #[.int .i64 (x.s:Int),.string (S q1.num),.string (S (q1.den:Int))]),.say (SayNew 1 51 #[.int .i64 (x.s:Int),.string (S q1.num),.string (S (q1.den:Int))])] [] (by kernel_rfl) (by kernel_rfl) rfl ⟨SayNew.mono _ _ _,trivial⟩ (allItems.cons qi0 (allItems.cons qi0 (allItems.cons (qi1 fun X h=>RF5 (Row.below ra h)) (allItems.cons qi0 (allItems.cons (qif hi) (allItems.cons qi0 (allItems.cons (qi1 fun X h=>Fg X (Row.below rg h)) (allItems.cons qi0 (allItems.cons (qif hw1) (allItems.cons (qi2 fun X h=>R1 X) (allItems.cons (qif hi) (allItems.cons qin trivial)))))))))))) ?_
    rintro W h1
    replace hA:=UAt.below hA h1
    replace hH:=OT.later hH h1
    replace hL:=OT.later hL h1
    replace hn0:=le_below hn0 h1
    have stp:=St6 hB h1 ra rr rn rm re rg;clear hB h1 ra sa ca0 ca1 ca2 ca3 ca4 rr sr cr0 cr1 cr2 cr3 rn sn cn0 cn1 cn2 cn3 rm sm cm0 cm1 cm2 cm3 fm0 fm1 fm2 fm3 re se ce0 ce1 ce2 ce3 rg sg cg0 cg1 cg2
    obtain ⟨hB,ra,rr,rn,rm,re,rg⟩:=stp
    obtain ⟨sa,ca0,ca1,ca2,ca3,ca4⟩:=RF5 ra
    obtain ⟨sr,cr0,cr1,cr2,cr3⟩:=RF4 rr
    obtain ⟨sn,cn0,cn1,cn2,cn3⟩:=RF4 rn
    obtain ⟨sm,cm0,cm1,cm2,cm3,fm0,fm1,fm2,fm3⟩:=RFz4 rm
    obtain ⟨se,ce0,ce1,ce2,ce3⟩:=RF4 re
    obtain ⟨sg,cg0,cg1,cg2⟩:=Fg _ rg
    simp only [setItems,List.setIfInBounds_toArray,List.set_cons_succ,List.set_cons_zero,List.take_succ_cons,List.take_zero,List.drop_succ_cons,List.drop_zero]
    rintro _ ⟨gbhL,rfl,rghL⟩
    intro _
    go_upto_region 15 with (at_builtin;refine wpl_append_term rfl (.tmp 120) (.tmp 131) rfl n0 pl cl (LO i) ⟨x.s,q1⟩ rfl hL gbhL rfl rghL hle2 (by omega) ?_;intro phL chL Y2 own9 hg9;replace hH:=TApart.kept hL hH (TApart.more hap.2) hg9;replace hA:=uat_grown hA HPL hL hg9;replace ra:=own_row_ne hL hg9 ra l_a;replace rr:=own_row_ne hL hg9 rr l_r;replace rn:=own_row_ne hL hg9 rn l_n;replace rm:=own_row_ne hL hg9 rm l_m;replace re:=own_row_ne hL hg9 re l_e;replace rg:=own_row_ne hL hg9 rg l_g;replace hn0:=Nat.le_trans hn0 hg9.size;replace hB:=Below.grown hB hg9 hB.size (fun k hk=>by have:=(World.ownsRow.lt hL k hk).1;omega);clear hL hg9;have hL:=own9;clear own9)
    clear sa ca0 ca1 ca2 ca3 ca4
    clear sr cr0 cr1 cr2 cr3
    clear sn cn0 cn1 cn2 cn3
    clear sm cm0 cm1 cm2 cm3 fm0 fm1 fm2 fm3
    clear se ce0 ce1 ce2 ce3
    clear sg cg0 cg1 cg2
    obtain ⟨sa,ca0,ca1,ca2,ca3,ca4⟩:=RF5 ra
    obtain ⟨sr,cr0,cr1,cr2,cr3⟩:=RF4 rr
    obtain ⟨sn,cn0,cn1,cn2,cn3⟩:=RF4 rn
    obtain ⟨sm,cm0,cm1,cm2,cm3,fm0,fm1,fm2,fm3⟩:=RFz4 rm
    obtain ⟨se,ce0,ce1,ce2,ce3⟩:=RF4 re
    obtain ⟨sg,cg0,cg1,cg2⟩:=Fg _ rg
    go_wp2
    go_roundw
    case rel=>exact ⟨i+1,chH,chL,phH,phL,(by rw [E1.out];simp only [List.length_append,List.length_cons,List.length_nil,Nat.zero_add]),(by rw [E2.out];simp only [List.length_append,List.length_cons,List.length_nil,Nat.zero_add]),by go_num,by omega,fun h=>absurd h (by omega),by rw [E1.out];exact hH,by rw [E2.out];exact hL,hA,hn0,BW,RW8,RW8,RW8,RW8,RW8⟩
    case measure=>simp [intOf];omega
   ·have hgn:¬ gg<0:=by omega
    obtain ⟨e1,e2⟩:=HT1.out (by first | exact hgl | exact hgn)
    have E1:=Lib.hid e1
    have E2:=Lib.hid e2
    clear e1 e2 HS1 HT1
    go_wp2_with fail
    refine wp_region_vals [.pointer (some ⟨W3.heap.size,2,none⟩),.slice (some ⟨g,0,none⟩) n ca,.int .i64 (i:Int),.pointer (some ⟨g,i * 3,none⟩),.pointer (some ⟨g,i * 3+1,none⟩),.agg #[.string (S x.c.num),.string (S (x.c.den:Int))],.agg #[.string (S z0.num),.string (S (z0.den:Int))],.int .i64 gg,.bool false] (by kernel_rfl) (by kernel_rfl) rfl (allVals.cons qv0 (allVals.cons (qv1 fun X h=>RF5 (Row.below ra h)) (allVals.cons qv0 (allVals.cons (qvf hi) (allVals.cons qv0 (allVals.cons (qv1 fun X h=>Fg X (Row.below rg h)) (allVals.cons (qv2 fun X h=>R0 X) (allVals.cons (qv2 fun X h=>CPi X (he.below (hB.trans (h.mono hB.size)))) (allVals.cons (qvf hgl) trivial))))))))) ?_
    rintro W h1
    replace hA:=UAt.below hA h1
    replace hH:=OT.later hH h1
    replace hL:=OT.later hL h1
    replace hn0:=le_below hn0 h1
    have stp:=St6 hB h1 ra rr rn rm re rg;clear hB h1 ra sa ca0 ca1 ca2 ca3 ca4 rr sr cr0 cr1 cr2 cr3 rn sn cn0 cn1 cn2 cn3 rm sm cm0 cm1 cm2 cm3 fm0 fm1 fm2 fm3 re se ce0 ce1 ce2 ce3 rg sg cg0 cg1 cg2
    obtain ⟨hB,ra,rr,rn,rm,re,rg⟩:=stp
    obtain ⟨sa,ca0,ca1,ca2,ca3,ca4⟩:=RF5 ra
    obtain ⟨sr,cr0,cr1,cr2,cr3⟩:=RF4 rr
    obtain ⟨sn,cn0,cn1,cn2,cn3⟩:=RF4 rn
    obtain ⟨sm,cm0,cm1,cm2,cm3,fm0,fm1,fm2,fm3⟩:=RFz4 rm
    obtain ⟨se,ce0,ce1,ce2,ce3⟩:=RF4 re
    obtain ⟨sg,cg0,cg1,cg2⟩:=Fg _ rg
    simp only [setVals,List.setIfInBounds_toArray,List.set_cons_succ,List.set_cons_zero]
    go_wp2_with fail
    refine wp_region_items3 11 [.val (.slice ph (HI i).length ch),.val (.pointer (some ⟨W3.heap.size,2,none⟩)),.val (.slice (some ⟨g,0,none⟩) n ca),.val (.int .i64 (i:Int)),.val (.pointer (some ⟨g,i * 3,none⟩)),.val (.pointer (some ⟨g,i * 3,none⟩)),.val (.int .i64 (x.s:Int)),.val (.int .i64 1),.val (.agg #[.string (S q1.num),.string (S (q1.den:Int))]),.val (.agg #[.int .i64 (x.s:Int),.string (S q1.num),.string (S (q1.den:Int))]),.say (SayNew 1 51 #[.int .i64 (x.s:Int),.string (S q1.num),.string (S (q1.den:Int))])] [] (by kernel_rfl) (by kernel_rfl) rfl ⟨SayNew.mono _ _ _,trivial⟩ (allItems.cons qi0 (allItems.cons qi0 (allItems.cons (qi1 fun X h=>RF5 (Row.below ra h)) (allItems.cons qi0 (allItems.cons (qif hi) (allItems.cons qi0 (allItems.cons (qi1 fun X h=>Fg X (Row.below rg h)) (allItems.cons qi0 (allItems.cons (qi2 fun X h=>R1 X) (allItems.cons (qif hi) (allItems.cons qin trivial))))))))))) ?_
    rintro W h1
    replace hA:=UAt.below hA h1
    replace hH:=OT.later hH h1
    replace hL:=OT.later hL h1
    replace hn0:=le_below hn0 h1
    have stp:=St6 hB h1 ra rr rn rm re rg;clear hB h1 ra sa ca0 ca1 ca2 ca3 ca4 rr sr cr0 cr1 cr2 cr3 rn sn cn0 cn1 cn2 cn3 rm sm cm0 cm1 cm2 cm3 fm0 fm1 fm2 fm3 re se ce0 ce1 ce2 ce3 rg sg cg0 cg1 cg2
    obtain ⟨hB,ra,rr,rn,rm,re,rg⟩:=stp
    obtain ⟨sa,ca0,ca1,ca2,ca3,ca4⟩:=RF5 ra
    obtain ⟨sr,cr0,cr1,cr2,cr3⟩:=RF4 rr
    obtain ⟨sn,cn0,cn1,cn2,cn3⟩:=RF4 rn
    obtain ⟨sm,cm0,cm1,cm2,cm3,fm0,fm1,fm2,fm3⟩:=RFz4 rm
    obtain ⟨se,ce0,ce1,ce2,ce3⟩:=RF4 re
    obtain ⟨sg,cg0,cg1,cg2⟩:=Fg _ rg
    simp only [setItems,List.setIfInBounds_toArray,List.set_cons_succ,List.set_cons_zero,List.take_succ_cons,List.take_zero,List.drop_succ_cons,List.drop_zero]
    rintro _ ⟨gbhH,rfl,rghH⟩
    intro _
    go_upto_region 20 with (at_builtin;refine wpl_append_term rfl (.tmp 108) (.tmp 118) rfl n0 ph ch (HI i) ⟨x.s,q1⟩ rfl hH gbhH rfl rghH hle1 (by omega) ?_;intro phH chH Y1 own9 hg9;replace hL:=TApart.kept hH hL hap.1 hg9;replace hA:=uat_grown hA HPL hH hg9;replace ra:=own_row_ne hH hg9 ra l_a;replace rr:=own_row_ne hH hg9 rr l_r;replace rn:=own_row_ne hH hg9 rn l_n;replace rm:=own_row_ne hH hg9 rm l_m;replace re:=own_row_ne hH hg9 re l_e;replace rg:=own_row_ne hH hg9 rg l_g;replace hn0:=Nat.le_trans hn0 hg9.size;replace hB:=Below.grown hB hg9 hB.size (fun k hk=>by have:=(World.ownsRow.lt hH k hk).1;omega);clear hH hg9;have hH:=own9;clear own9)
    clear sa ca0 ca1 ca2 ca3 ca4
    clear sr cr0 cr1 cr2 cr3
    clear sn cn0 cn1 cn2 cn3
    clear sm cm0 cm1 cm2 cm3 fm0 fm1 fm2 fm3
    clear se ce0 ce1 ce2 ce3
    clear sg cg0 cg1 cg2
    obtain ⟨sa,ca0,ca1,ca2,ca3,ca4⟩:=RF5 ra
    obtain ⟨sr,cr0,cr1,cr2,cr3⟩:=RF4 rr
    obtain ⟨sn,cn0,cn1,cn2,cn3⟩:=RF4 rn
    obtain ⟨sm,cm0,cm1,cm2,cm3,fm0,fm1,fm2,fm3⟩:=RFz4 rm
    obtain ⟨se,ce0,ce1,ce2,ce3⟩:=RF4 re
    obtain ⟨sg,cg0,cg1,cg2⟩:=Fg _ rg
    go_wp2_with fail
    refine wp_region_items3 12 [.val (.slice pl (LO i).length cl),.val (.pointer (some ⟨W3.heap.size,2,none⟩)),.val (.slice (some ⟨g,0,none⟩) n ca),.val (.int .i64 (i:Int)),.val (.pointer (some ⟨g,i * 3,none⟩)),.val (.pointer (some ⟨g,i * 3,none⟩)),.val (.int .i64 (x.s:Int)),.val (.int .i64 1),.val (.int .i64 (-1)),.val (.agg #[.string (S qm.num),.string (S (qm.den:Int))]),.val (.agg #[.int .i64 (x.s:Int),.string (S qm.num),.string (S (qm.den:Int))]),.say (SayNew 1 51 #[.int .i64 (x.s:Int),.string (S qm.num),.string (S (qm.den:Int))])] [] (by kernel_rfl) (by kernel_rfl) rfl ⟨SayNew.mono _ _ _,trivial⟩ (allItems.cons qi0 (allItems.cons qi0 (allItems.cons (qi1 fun X h=>RF5 (Row.below ra h)) (allItems.cons qi0 (allItems.cons (qif hi) (allItems.cons qi0 (allItems.cons (qi1 fun X h=>Fg X (Row.below rg h)) (allItems.cons qi0 (allItems.cons (qif hwm) (allItems.cons (qi2 fun X h=>RM X) (allItems.cons (qif hi) (allItems.cons qin trivial)))))))))))) ?_
    rintro W h1
    replace hA:=UAt.below hA h1
    replace hH:=OT.later hH h1
    replace hL:=OT.later hL h1
    replace hn0:=le_below hn0 h1
    have stp:=St6 hB h1 ra rr rn rm re rg;clear hB h1 ra sa ca0 ca1 ca2 ca3 ca4 rr sr cr0 cr1 cr2 cr3 rn sn cn0 cn1 cn2 cn3 rm sm cm0 cm1 cm2 cm3 fm0 fm1 fm2 fm3 re se ce0 ce1 ce2 ce3 rg sg cg0 cg1 cg2
    obtain ⟨hB,ra,rr,rn,rm,re,rg⟩:=stp
    obtain ⟨sa,ca0,ca1,ca2,ca3,ca4⟩:=RF5 ra
    obtain ⟨sr,cr0,cr1,cr2,cr3⟩:=RF4 rr
    obtain ⟨sn,cn0,cn1,cn2,cn3⟩:=RF4 rn
    obtain ⟨sm,cm0,cm1,cm2,cm3,fm0,fm1,fm2,fm3⟩:=RFz4 rm
    obtain ⟨se,ce0,ce1,ce2,ce3⟩:=RF4 re
    obtain ⟨sg,cg0,cg1,cg2⟩:=Fg _ rg
    simp only [setItems,List.setIfInBounds_toArray,List.set_cons_succ,List.set_cons_zero,List.take_succ_cons,List.take_zero,List.drop_succ_cons,List.drop_zero]
    rintro _ ⟨gbhL,rfl,rghL⟩
    intro _
    go_upto_region 15 with (at_builtin;refine wpl_append_term rfl (.tmp 120) (.tmp 131) rfl n0 pl cl (LO i) ⟨x.s,qm⟩ rfl hL gbhL rfl rghL hle2 (by omega) ?_;intro phL chL Y2 own9 hg9;replace hH:=TApart.kept hL hH (TApart.more hap.2) hg9;replace hA:=uat_grown hA HPL hL hg9;replace ra:=own_row_ne hL hg9 ra l_a;replace rr:=own_row_ne hL hg9 rr l_r;replace rn:=own_row_ne hL hg9 rn l_n;replace rm:=own_row_ne hL hg9 rm l_m;replace re:=own_row_ne hL hg9 re l_e;replace rg:=own_row_ne hL hg9 rg l_g;replace hn0:=Nat.le_trans hn0 hg9.size;replace hB:=Below.grown hB hg9 hB.size (fun k hk=>by have:=(World.ownsRow.lt hL k hk).1;omega);clear hL hg9;have hL:=own9;clear own9)
    clear sa ca0 ca1 ca2 ca3 ca4
    clear sr cr0 cr1 cr2 cr3
    clear sn cn0 cn1 cn2 cn3
    clear sm cm0 cm1 cm2 cm3 fm0 fm1 fm2 fm3
    clear se ce0 ce1 ce2 ce3
    clear sg cg0 cg1 cg2
    obtain ⟨sa,ca0,ca1,ca2,ca3,ca4⟩:=RF5 ra
    obtain ⟨sr,cr0,cr1,cr2,cr3⟩:=RF4 rr
    obtain ⟨sn,cn0,cn1,cn2,cn3⟩:=RF4 rn
    obtain ⟨sm,cm0,cm1,cm2,cm3,fm0,fm1,fm2,fm3⟩:=RFz4 rm
    obtain ⟨se,ce0,ce1,ce2,ce3⟩:=RF4 re
    obtain ⟨sg,cg0,cg1,cg2⟩:=Fg _ rg
    go_wp2
    go_roundw
    case rel=>exact ⟨i+1,chH,chL,phH,phL,(by rw [E1.out];simp only [List.length_append,List.length_cons,List.length_nil,Nat.zero_add]),(by rw [E2.out];simp only [List.length_append,List.length_cons,List.length_nil,Nat.zero_add]),by go_num,by omega,fun h=>absurd h (by omega),by rw [E1.out];exact hH,by rw [E2.out];exact hL,hA,hn0,BW,RW8,RW8,RW8,RW8,RW8⟩
    case measure=>simp [intOf];omega
  ·obtain rfl:n=i:=by omega
   have hl1:=HLENS.out n him
   obtain ⟨sa,ca0,ca1,ca2,ca3,ca4⟩:=RF5 ra
   obtain ⟨sr,cr0,cr1,cr2,cr3⟩:=RF4 rr
   obtain ⟨sn,cn0,cn1,cn2,cn3⟩:=RF4 rn
   obtain ⟨sm,cm0,cm1,cm2,cm3,fm0,fm1,fm2,fm3⟩:=RFz4 rm
   obtain ⟨se,ce0,ce1,ce2,ce3⟩:=RF4 re
   have tH:=OT.tat hH
   have tL:=OT.tat hL
   rw [hl1.1,hl1.2] at *
   clear hH hL hl1
   go_wp2_with fail
   refine (A3 _ _ _ _ _ hA tH (he.below hB)).mono ?_
   rintro e W16 ⟨rfl,h1⟩
   replace hA:=UAt.below hA h1
   replace tH:=UAt.below tH h1
   replace tL:=UAt.below tL h1
   have stp:=St5 hB h1 ra rr rn rm re;clear hB h1 ra sa ca0 ca1 ca2 ca3 ca4 rr sr cr0 cr1 cr2 cr3 rn sn cn0 cn1 cn2 cn3 rm sm cm0 cm1 cm2 cm3 fm0 fm1 fm2 fm3 re se ce0 ce1 ce2 ce3
   obtain ⟨hB,ra,rr,rn,rm,re⟩:=stp
   obtain ⟨sa,ca0,ca1,ca2,ca3,ca4⟩:=RF5 ra
   obtain ⟨sr,cr0,cr1,cr2,cr3⟩:=RF4 rr
   obtain ⟨sn,cn0,cn1,cn2,cn3⟩:=RF4 rn
   obtain ⟨sm,cm0,cm1,cm2,cm3,fm0,fm1,fm2,fm3⟩:=RFz4 rm
   obtain ⟨se,ce0,ce1,ce2,ce3⟩:=RF4 re
   go_wp2_with fail
   have dm_t:pm<W16.heap.size:=by omega
   have sB:=hB.size
   refine world_cut (fun X=>Below w.heap.size w X∧Row X W3.heap.size (.cells #[.string (S A.c.num),.string (S (A.c.den:Int)),.slice pa n ca,.string (S A.r.num),.string (S (A.r.den:Int))] 30)∧Row X W7.heap.size (.cells #[.string (S x1.num),.string (S (x1.den:Int)),.string (S x2.num),.string (S (x2.den:Int))] 53)∧Row X W9.heap.size (.cells #[.string (S x1.num),.string (S (x1.den:Int)),.string (S x2.num),.string (S (x2.den:Int))] 53)∧Row X pm (.cells #[.string (S s1.num),.string (S (s1.den:Int)),.string (S s2.num),.string (S (s2.den:Int))] 53)∧Row X W12.heap.size (.cells #[.string (S u1.num),.string (S (u1.den:Int)),.string (S u2.num),.string (S (u2.den:Int))] 53)∧Row X W16.heap.size (.cells #[.string (S t1.num),.string (S (t1.den:Int)),.string (S x2.num),.string (S (x2.den:Int))] 53)∧TAt 51 X pa A.t∧TAt 51 X ph (HI n)∧TAt 51 X pl (LO n)) ⟨BW,RW8,RW8,RW8,RW8,RW8,RW8,TW,TW,TW⟩ ?_
   clear ra
   clear sa ca0 ca1 ca2 ca3 ca4
   clear rr
   clear sr cr0 cr1 cr2 cr3
   clear rn
   clear sn cn0 cn1 cn2 cn3
   clear rm
   clear sm cm0 cm1 cm2 cm3 fm0 fm1 fm2 fm3
   clear re
   clear se ce0 ce1 ce2 ce3
   clear hB sB hA tH tL
   rintro V17 ⟨hB,ra,rr,rn,rm,re,rt,hA,tH,tL⟩
   obtain ⟨sa,ca0,ca1,ca2,ca3,ca4⟩:=RF5 ra
   obtain ⟨sr,cr0,cr1,cr2,cr3⟩:=RF4 rr
   obtain ⟨sn,cn0,cn1,cn2,cn3⟩:=RF4 rn
   obtain ⟨sm,cm0,cm1,cm2,cm3,fm0,fm1,fm2,fm3⟩:=RFz4 rm
   obtain ⟨se,ce0,ce1,ce2,ce3⟩:=RF4 re
   obtain ⟨st,ct0,ct1,ct2,ct3⟩:=RF4 rt
   refine (A4 _ _ _ _ _ hA tL (he.below hB)).mono ?_
   rintro e W18 ⟨rfl,h1⟩
   replace hA:=UAt.below hA h1
   replace tH:=UAt.below tH h1
   replace tL:=UAt.below tL h1
   have stp:=St6 hB h1 ra rr rn rm re rt;clear hB h1 ra sa ca0 ca1 ca2 ca3 ca4 rr sr cr0 cr1 cr2 cr3 rn sn cn0 cn1 cn2 cn3 rm sm cm0 cm1 cm2 cm3 fm0 fm1 fm2 fm3 re se ce0 ce1 ce2 ce3 rt st ct0 ct1 ct2 ct3
   obtain ⟨hB,ra,rr,rn,rm,re,rt⟩:=stp
   obtain ⟨sa,ca0,ca1,ca2,ca3,ca4⟩:=RF5 ra
   obtain ⟨sr,cr0,cr1,cr2,cr3⟩:=RF4 rr
   obtain ⟨sn,cn0,cn1,cn2,cn3⟩:=RF4 rn
   obtain ⟨sm,cm0,cm1,cm2,cm3,fm0,fm1,fm2,fm3⟩:=RFz4 rm
   obtain ⟨se,ce0,ce1,ce2,ce3⟩:=RF4 re
   obtain ⟨st,ct0,ct1,ct2,ct3⟩:=RF4 rt
   go_wp2
   go_ret
   exact ⟨rfl,hB.alloc hB.size _⟩
theorem vals_nil:ValsOk []:=⟨by decide,SrcOk.nil,fun p hp=>(by cases hp),fun p hp=>(by cases hp)⟩
theorem affineRanges {c0 r0 fa:Int} {x z:Nat→Int} (hc0:IsInt c0) (hr0:IsInt r0) (hx:∀ i,i<6→IsInt (x i)) (hz:∀ i,i<6→IsInt (z i)) (hf:IsInt fa) (w:World) (he:Env w) :
  Calls Tryz.prog 8 #[.agg #[.int .i64 c0,.int .i64 r0,.int .i64 (x 0),.int .i64 (x 1),.int .i64 (x 2),.int .i64 (x 3),.int .i64 (x 4),.int .i64 (x 5)],.agg #[.int .i64 (z 0),.int .i64 (z 1),.int .i64 (z 2),.int .i64 (z 3),.int .i64 (z 4),.int .i64 (z 5)],.int .i64 fa] w (BoolOk true w):=by
 have hk0:=pk_nonneg fa (n:=7) (by decide)
 have hk1:=pk_lt fa (n:=7) (by decide)
 have PK:=fun W=>pickL8 fa 7 hf (by decide) W
 generalize pk fa 7=kz at *
 obtain ⟨k,rfl⟩:∃ k:Nat,kz=(k:Int):=⟨kz.toNat,by omega⟩
 have hk:k≤6:=by omega
 have MA:=fun W=>lmade8 hc0 hr0 x hx W
 have oa:=mForm_ok c0 r0 x
 have ga:=mForm_gr c0 r0 x
 have la:=mForm_len c0 r0 x
 have VA:∀ W,Calls Tryz.prog 29 #[.agg #[.int .i64 (z 0),.int .i64 (z 1),.int .i64 (z 2),.int .i64 (z 3),.int .i64 (z 4),.int .i64 (z 5)]] W (ValIs (vTo z 6) W):=fun W=>(r8values z hz W).mono fun e w' ⟨p,c,h1,h2,h3,h4⟩=>⟨p,c,h1,by rw [vTo_len] at h2;exact h2,by rw [vTo_len] at h3;exact h3,h4⟩
 generalize mForm c0 r0 x=A at *
 have da:FDig 200 A:=ga.dig (by decide) (by decide +kernel) (by decide +kernel)
 have hR:=RangeF.made ga la
 have h0:=atF_made (vs:=[]) ga (fun p hp=>by cases hp) la
 have hK:=atF_made ga (vTo_gr z k) la
 have hV:=atF_made ga (vTo_gr z 6) la
 have hU:=atF_made ga (ends_gr (l:=A.t) (up:=1) (.inl rfl)) la
 have hD:=atF_made ga (ends_gr (l:=A.t) (up := -1) (.inr rfl)) la
 have sg:∀ c:Rat,c<0→sgn c = -1:=fun c h=>if_pos h
 have sp:∀ c:Rat,¬ c<0→sgn c=1:=fun c h=>if_neg h
 have e1:Rat.divInt (1 * 1) 1=1:=by decide +kernel
 have e2:Rat.divInt (1 * -1) 1 = -1:=by decide +kernel
 have e3:Rat.divInt (-1 * 1) 1 = -1:=by decide +kernel
 have e4:Rat.divInt (-1 * -1) 1=1:=by decide +kernel
 refine ranges0 (A:=A) (VS:=vTo z 6) (VK:=vTo z k) (HI:=fun i=>ends (A.t.take i) 1) (LO:=fun i=>ends (A.t.take i) (-1)) (x1:=(rangeI A).lo) (x2:=(rangeI A).hi) (s1:=(atI A (vTo z k)).lo) (s2:=(atI A (vTo z k)).hi) (u1:=(atI A (vTo z 6)).lo) (u2:=(atI A (vTo z 6)).hi)
  (t1:=(atI A (ends A.t 1)).lo) (b2:=(atI A (ends A.t (-1))).hi) (z0:=0) (q1:=1) (qm := -1) (k:=k) (n:=A.t.length) (gf:=fun i=>cmpQ (trD A.t i).c 0) rfl la hk ⟨rfl,rfl⟩ (fun i hi=>⟨?_,?_⟩) (fun i hi h=>⟨?_,?_⟩) (fun i hi h=>⟨?_,?_⟩) (fun i hi ph pl h=>ends_apart (l:=A.t.take i) (fun h0=>h (by rw [List.length_take] at h0;omega)))
  (rat8 (by decide +kernel)) (rat8 (by decide +kernel)) (rat8 (by decide +kernel)) ?_ sane8 (fun W=>(MA W).mono fun e w' ⟨p,c,h1,h2,h3⟩=>⟨p,c,h1,h2,h3⟩) VA PK ?_ ?_ ?_ ?_ ?_ ?_ ?_ ?_ ?_ w he
 ·show (ends (A.t.take i) 1).length=i
  rw [ends_len,List.length_take];omega
 ·show (ends (A.t.take i) (-1)).length=i
  rw [ends_len,List.length_take];omega
 ·show ends (A.t.take (i+1)) 1=ends (A.t.take i) 1 ++ _
  rw [ends_succ hi,sg _ (cmpQ_lt.1 h),e2]
 ·show ends (A.t.take (i+1)) (-1)=ends (A.t.take i) (-1) ++ _
  rw [ends_succ hi,sg _ (cmpQ_lt.1 h),e4]
 ·show ends (A.t.take (i+1)) 1=ends (A.t.take i) 1 ++ _
  rw [ends_succ hi,sp _ (fun e=>h (cmpQ_lt.2 e)),e1]
 ·show ends (A.t.take (i+1)) (-1)=ends (A.t.take i) (-1) ++ _
  rw [ends_succ hi,sp _ (fun e=>h (cmpQ_lt.2 e)),e3]
 ·intro W q h
  have:=TAt.take h k
  rw [vTo_take z hk] at this;exact this
 ·intro W p c h H
  exact (arange oa hR (by omega) p c W h H).mono fun e w' h=>h
 ·intro W p c h H
  have:=aat h0 vals_nil oa da p c none 0 W h (TAt.nil _ _) H
  rw [at_nil] at this
  exact this.mono fun e w' h=>h
 ·intro W p c q d h1 h2 H
  have:=aat hK (vTo_vals z hk) oa da p c q d W h1 h2 H
  rw [vTo_len] at this
  exact this.mono fun e w' h=>h
 ·intro W p c q d h1 h2 H
  have:=aat hV (vTo_vals z (Nat.le_refl _)) oa da p c q d W h1 h2 H
  rw [vTo_len] at this
  exact this.mono fun e w' h=>h
 ·intro W H
  refine ewithin (atI A (vTo z k)) (rangeI A) (at_idig hK) (range_idig hR) (at_ok oa.rest) ?_ W H
  rw [← at_nil]
  exact at_sub (vTo_between z k) (fun id v h=>by rw [look_nil] at h;cases h)
 ·intro W H
  refine ewithin (atI A (vTo z 6)) (atI A (vTo z k)) (at_idig hV) (at_idig hK) (at_ok oa.rest) (at_sub (vTo_between z 6) (fun id v h => ?_)) W H
  rw [← vTo_take z hk] at h
  exact look_take (vTo_src z (by omega)) h
 ·intro W i hi H
  exact qcompare _ _ ((ga.t _ (trD_mem hi)).dig (by decide) (by decide +kernel) (by decide +kernel)) ((qd (by decide +kernel):QDig 9 0).mono (by decide)) W H
 ·intro W p c q d h1 h2 H
  have h3:TAt 51 W q (ends A.t 1):=by have:=h2;simp only [List.take_length] at this;exact this
  have:=aat hU (ends_vals oa.src la (.inl rfl)) oa da p c q d W h1 h3 H
  rw [ends_len] at this
  refine this.mono fun e w' h => ?_
  obtain ⟨h4,h5⟩:=h
  refine ⟨?_,h5⟩
  rw [← (ends_reach oa.src).1]
  exact h4
 ·intro W p c q d h1 h2 H
  have h3:TAt 51 W q (ends A.t (-1)):=by have:=h2;simp only [List.take_length] at this;exact this
  have:=aat hD (ends_vals oa.src la (.inr rfl)) oa da p c q d W h1 h3 H
  rw [ends_len] at this
  refine this.mono fun e w' h => ?_
  obtain ⟨h4,h5⟩:=h
  refine ⟨?_,h5⟩
  rw [← (ends_reach oa.src).2]
  exact h4
end Go.Proofs.YtjpkfjmmmmfeeaaGreatDoor
