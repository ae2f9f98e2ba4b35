/-
 AffineProducts: the laws' coeff, and the law's walk.
-/
import Derived.Test.YtjpkfjmmmmfeeaaGreatDoorKAFits
import Derived.Test.YtjpkfjmmmmfeeaaGreatDoorKExtra0
set_option linter.unusedSimpArgs false
set_option linter.unusedVariables false
set_option maxRecDepth 100000
set_option maxHeartbeats 16000000
namespace Go.Proofs.YtjpkfjmmmmfeeaaGreatDoor
open Go Go.RowKit Go.Lib Go.Shelf
attribute [local go_sem] normalQ
theorem lcoeff {f:Frm} (hs:SrcOk f.t) (hlen:f.t.length≤1000000) {z0:Rat} (hz0:z0=0) (R0:RatioIs 0 1 z0) (id:Nat) (p:Option Addr) (c:Nat) (w:World) (hp:TAt 51 w p f.t):Calls Tryz.prog 19 #[FV f p c,.int .i64 (id:Int)] w (QIs (cf f.t id) w):=by
 have hB:Below w.heap.size w w:=Below.refl _ _
 have HP:=Lib.hid hp
 have HZ:=Lib.hid hz0
 clear hz0
 obtain ⟨n,hn⟩:∃ n,f.t.length=n:=⟨_,rfl⟩
 have HN:=Lib.hid hn
 have hnI:(n:Int)≤1000000:=by omega
 unfold QIs
 unfold RatioIs QIs at R0
 unfold FV Q at *
 rw [hn]
 obtain ⟨v,hv⟩:∃ v,v=cf f.t id:=⟨_,rfl⟩
 rw [← hv]
 have HV:=Lib.hid hv
 clear hp hn hlen hv
 go_enter Tryz.func19, Tryz.ntmps19
 go_wp2_with fail
 have d0_o:w.heap.size≤w.heap.size+1:=by have:=hB.size;omega
 have sB:=hB.size
 refine wp_cut (fun X=>Below w.heap.size w X∧Row X w.heap.size (.cells #[.string (S f.c.num),.string (S (f.c.den:Int)),.slice p n c,.string (S f.r.num),.string (S (f.r.den:Int))] 30)∧Row X (w.heap.size+1) (.cells #[.string ⟨#[]⟩,.string ⟨#[]⟩] 27)) ⟨BW,RW8,RW8⟩ ?_
 clear hB sB
 rintro V1 ⟨hB,rf,ro⟩
 obtain ⟨sf,cf0,cf1,cf2,cf3,cf4⟩:=RF5 rf
 obtain ⟨so,co0,co1,fo0,fo1⟩:=RFz2 ro
 go_loopw [5] (fun v5 wr=>∃ i:Nat,v5 = .int .i64 (i:Int)∧i≤n∧(∀ t,t<i→(trD f.t t).s≠id)∧Below w.heap.size w wr∧Row wr w.heap.size (.cells #[.string (S f.c.num),.string (S (f.c.den:Int)),.slice p n c,.string (S f.r.num),.string (S (f.r.den:Int))] 30)∧Row wr (w.heap.size+1) (.cells #[.string ⟨#[]⟩,.string ⟨#[]⟩] 27)) (fun v5 _=>(n - intOf v5).toNat)
 case atStart=>exact ⟨0,rfl,Nat.zero_le _,fun t ht=>absurd ht (by omega),hB,rf,ro⟩
 case round =>
  clear sf cf0 cf1 cf2 cf3 cf4
  clear so co0 co1 fo0 fo1
  clear hB rf ro
  obtain ⟨i,rfl,him,hlo,hB,rf,ro⟩:=hrel
  rcases Nat.lt_or_ge i n with hlt | hge
  ·have hlt':i<f.t.length:=by rw [HN.out];exact hlt
   obtain ⟨x,hx⟩:∃ x,x=trD f.t i:=⟨_,rfl⟩
   have HX:=Lib.hid hx
   have hi:(i:Int)<(n:Int):=by omega
   obtain ⟨g,gcur,rfl,rg,g0,g1,g2⟩:=TAt.at (UAt.below HP.out hB) hlt'
   rw [← hx] at g0 g1 g2
   clear hx
   have Fg:∀ X,Row X g (.cells gcur 51)→(g<X.heap.size∧X.cell? ⟨g,i * 3,none⟩=some (.int .i64 (x.s:Int))∧X.cell? ⟨g,i * 3+1,none⟩=some (.string (S x.c.num))∧X.cell? ⟨g,i * 3+2,none⟩=some (.string (S (x.c.den:Int)))):=fun X h=>⟨h.1,Row.cell_at h _ g0,Row.cell_at h _ g1,Row.cell_at h _ g2⟩
   obtain ⟨sg,cg0,cg1,cg2⟩:=Fg _ rg
   obtain ⟨sf,cf0,cf1,cf2,cf3,cf4⟩:=RF5 rf
   obtain ⟨so,co0,co1,fo0,fo1⟩:=RFz2 ro
   by_cases hq:x.s=id
   ·have hqI:((x.s:Nat):Int)=(id:Int):=by omega
    rw [hqI] at g0 cg0 Fg
    have HQ:=Lib.hid hq
    obtain rfl:v=x.c:=by rw [HV.out,← HQ.out,HX.out];exact cf_at hs hlt'
    clear hq hqI
    go_wp2_with fail
    clear Fg
    have sB:=hB.size
    refine post_cut (fun X=>Below w.heap.size w X∧Row X (w.heap.size+1) (.cells #[.string (S x.c.num),.string (S (x.c.den:Int))] 27)) ⟨BW,RW8⟩ ?_
    clear rf
    clear sf cf0 cf1 cf2 cf3 cf4
    clear ro
    clear so co0 co1 fo0 fo1
    clear rg
    clear sg cg0 cg1 cg2
    clear hB sB
    rintro V2 ⟨hB,ro⟩
    obtain ⟨so,co0,co1,fo0,fo1⟩:=RFz2 ro
    refine bodyPost_ret (v := .agg #[.string (S x.c.num),.string (S (x.c.den:Int))]) ?res rfl ⟨rfl,hB⟩
    case res=>simp [results,Tryz.results19, go_sem,co0,co1]
   ·have hqI:¬ ((x.s:Nat):Int)=(id:Int):=by omega
    have hqb:(((x.s:Nat):Int) == (id:Int))=false:=beq_eq_false_iff_ne.2 hqI
    clear hqI
    go_wp2
    go_roundw
    case rel=>exact ⟨i+1,by go_num,by omega,fun t ht=>(by rcases Nat.lt_succ_iff_lt_or_eq.1 ht with h4 | h4;(· exact hlo t h4);(· rw [h4,← HX.out];exact hq)),BW,RW8,RW8⟩
    case measure=>simp [intOf];omega
  ·obtain rfl:n=i:=by omega
   obtain rfl:v=z0:=(HV.out.trans <| cf_none fun t ht=>by obtain ⟨k,hk,rfl⟩:=List.getElem_of_mem ht;rw [← trD_get hk];exact hlo k (by have:=HN.out;omega)).trans HZ.out.symm
   clear HV
   obtain ⟨sf,cf0,cf1,cf2,cf3,cf4⟩:=RF5 rf
   obtain ⟨so,co0,co1,fo0,fo1⟩:=RFz2 ro
   go_wp2_with fail
   refine (R0 _).mono ?_
   rintro e W2 ⟨rfl,h1⟩
   have stp:=St2 hB h1 rf ro;clear hB h1 rf sf cf0 cf1 cf2 cf3 cf4 ro so co0 co1 fo0 fo1
   obtain ⟨hB,rf,ro⟩:=stp
   obtain ⟨sf,cf0,cf1,cf2,cf3,cf4⟩:=RF5 rf
   obtain ⟨so,co0,co1,fo0,fo1⟩:=RFz2 ro
   go_wp2_with fail
   have sB:=hB.size
   refine post_cut (fun X=>Below w.heap.size w X∧Row X w.heap.size (.cells #[.string (S f.c.num),.string (S (f.c.den:Int)),.slice p n c,.string (S f.r.num),.string (S (f.r.den:Int))] 30)∧Row X (w.heap.size+1) (.cells #[.string (S v.num),.string (S (v.den:Int))] 27)) ⟨BW,RW8,RW8⟩ ?_
   clear rf
   clear sf cf0 cf1 cf2 cf3 cf4
   clear ro
   clear so co0 co1 fo0 fo1
   clear hB sB
   rintro V3 ⟨hB,rf,ro⟩
   obtain ⟨sf,cf0,cf1,cf2,cf3,cf4⟩:=RF5 rf
   obtain ⟨so,co0,co1,fo0,fo1⟩:=RFz2 ro
   refine bodyPost_ret (v := .agg #[.string (S v.num),.string (S (v.den:Int))]) ?res rfl ⟨rfl,hB⟩
   case res=>simp [results,Tryz.results19, go_sem,co0,co1]
theorem products0 {A B M N:Frm} {by_ z:Rat} {k:Int} {fA fB fM fp fq:Nat→Rat} {c0 r0 c1 r1 fa:Int} {x y:Nat→Int} (hk0:0≤k) (hk1:k<41) (SE:∀ (W:World),Env W→Calls Tryz.prog 10 #[] W (BoolOk true W)) (MA:∀ (W:World),Calls Tryz.prog 11 #[.agg #[.int .i64 c0,.int .i64 r0,.int .i64 (x 0),.int .i64 (x 1),.int .i64 (x 2),.int .i64 (x 3),.int .i64 (x 4),.int .i64 (x 5)]] W (FIs A W)) (MB:∀ (W:World),Calls Tryz.prog 11 #[.agg #[.int .i64 c1,.int .i64 r1,.int .i64 (y 0),.int .i64 (y 1),.int .i64 (y 2),.int .i64 (y 3),.int .i64 (y 4),.int .i64 (y 5)]] W (FIs B W)) (PK:∀ (W:World),Calls Tryz.prog 13 #[.int .i64 fa,.int .i64 41] W (IntIs k W)) (RB:∀ (W:World),Calls Tryz.prog 12 #[.int .i64 (k - 20),.int .i64 4] W (QIs by_ W)) (ML:∀ (W:World) (p:Option Addr) (c:Nat) (q:Option Addr) (d:Nat),TAt 51 W p A.t→TAt 51 W q B.t→Env W→Calls Tryz.prog 14 #[FV A p c,FV B q d] W (FRes M W)) (KB:∀ (W:World),Env W→Calls Tryz.prog 15 #[Q by_] W (ConstZ z by_ W)) (MN:∀ (W:World) (p:Option Addr) (c:Nat),TAt 51 W p A.t→Env W→Calls Tryz.prog 14 #[.agg #[.string (S by_.num),.string (S (by_.den:Int)),.slice none 0 0,.string (S z.num),.string (S (z.den:Int))],FV A p c] W (FRes N W)) (SC:∀ (W:World) (p:Option Addr) (c:Nat),TAt 51 W p A.t→Env W→Calls Tryz.prog 16 #[FV A p c,Q by_] W (FRes N W)) (SN:∀ (W:World) (p:Option Addr) (c:Nat) (q:Option Addr) (d:Nat),TAt 51 W p N.t→TAt 51 W q N.t→Calls Tryz.prog 17 #[FV N p c,FV N q d] W (BoolOk true W)) (CA:∀ (W:World) (p:Option Addr) (c:Nat) (id:Nat),TAt 51 W p A.t→Calls Tryz.prog 19 #[FV A p c,.int .i64 (id:Int)] W (QIs (fA id) W)) (CB:∀ (W:World) (p:Option Addr) (c:Nat) (id:Nat),TAt 51 W p B.t→Calls Tryz.prog 19 #[FV B p c,.int .i64 (id:Int)] W (QIs (fB id) W)) (CM:∀ (W:World) (p:Option Addr) (c:Nat) (id:Nat),TAt 51 W p M.t→Calls Tryz.prog 19 #[FV M p c,.int .i64 (id:Int)] W (QIs (fM id) W)) (P1:∀ (W:World) (id:Nat),Env W→Calls Tryz.prog 18 #[Q A.c,Q (fB id)] W (QOk (fp id) W)) (Q1:∀ (W:World) (id:Nat),Env W→Calls Tryz.prog 18 #[Q B.c,Q (fA id)] W (QOk (fq id) W)) (S1:∀ (W:World) (id:Nat),Env W→Calls Tryz.prog 20 #[Q (fp id),Q (fq id)] W (QOk (fM id) W)) (CC:∀ (W:World),Env W→Calls Tryz.prog 18 #[Q A.c,Q B.c] W (QOk M.c W)) (w:World) (he:Env w):Calls Tryz.prog 3 #[.agg #[.int .i64 c0,.int .i64 r0,.int .i64 (x 0),.int .i64 (x 1),.int .i64 (x 2),.int .i64 (x 3),.int .i64 (x 4),.int .i64 (x 5)],.agg #[.int .i64 c1,.int .i64 r1,.int .i64 (y 0),.int .i64 (y 1),.int .i64 (y 2),.int .i64 (y 3),.int .i64 (y 4),.int .i64 (y 5)],.int .i64 fa] w (BoolOk true w):=by
 have hB:Below w.heap.size w w:=Below.refl _ _
 unfold QIs Q at RB
 unfold QIs Q at CA CB CM
 unfold Q at SC
 unfold BoolOk at SE SN
 unfold BoolOk
 unfold FIs at MA MB
 unfold IntIs at PK
 unfold FRes at ML SC
 unfold ConstZ Q at KB
 unfold QOk Q at P1 Q1 S1 CC
 unfold FV at ML SC SN CA CB CM
 unfold FV at MA MB MN
 go_enter Tryz.func3, Tryz.ntmps3
 go_wp2_with fail
 have sB:=hB.size
 refine world_cut (fun X=>Below w.heap.size w X∧Row X w.heap.size (.cells #[.int .i64 c0,.int .i64 r0,.int .i64 (x 0),.int .i64 (x 1),.int .i64 (x 2),.int .i64 (x 3),.int .i64 (x 4),.int .i64 (x 5)] 24)∧Row X (w.heap.size+1) (.cells #[.int .i64 c1,.int .i64 r1,.int .i64 (y 0),.int .i64 (y 1),.int .i64 (y 2),.int .i64 (y 3),.int .i64 (y 4),.int .i64 (y 5)] 24)) ⟨BW,RW8,RW8⟩ ?_
 clear hB sB
 rintro V1 ⟨hB,rx,ry⟩
 have Fx:∀ X,Row X w.heap.size (.cells #[.int .i64 c0,.int .i64 r0,.int .i64 (x 0),.int .i64 (x 1),.int .i64 (x 2),.int .i64 (x 3),.int .i64 (x 4),.int .i64 (x 5)] 24)→(w.heap.size<X.heap.size∧X.cell? ⟨w.heap.size,0,none⟩=some (.int .i64 c0)∧X.cell? ⟨w.heap.size,1,none⟩=some (.int .i64 r0)∧X.cell? ⟨w.heap.size,2,none⟩=some (.int .i64 (x 0))∧X.cell? ⟨w.heap.size,3,none⟩=some (.int .i64 (x 1))∧X.cell? ⟨w.heap.size,4,none⟩=some (.int .i64 (x 2))∧X.cell? ⟨w.heap.size,5,none⟩=some (.int .i64 (x 3))∧X.cell? ⟨w.heap.size,6,none⟩=some (.int .i64 (x 4))∧X.cell? ⟨w.heap.size,7,none⟩=some (.int .i64 (x 5))):=fun X h=>⟨h.1,Row.cell_at h 0 rfl,Row.cell_at h 1 rfl,Row.cell_at h 2 rfl,Row.cell_at h 3 rfl,Row.cell_at h 4 rfl,Row.cell_at h 5 rfl,Row.cell_at h 6 rfl,Row.cell_at h 7 rfl⟩
 obtain ⟨sx,cx0,cx1,cx2,cx3,cx4,cx5,cx6,cx7⟩:=Fx _ rx
 have Fy:∀ X,Row X (w.heap.size+1) (.cells #[.int .i64 c1,.int .i64 r1,.int .i64 (y 0),.int .i64 (y 1),.int .i64 (y 2),.int .i64 (y 3),.int .i64 (y 4),.int .i64 (y 5)] 24)→(w.heap.size+1<X.heap.size∧X.cell? ⟨w.heap.size+1,0,none⟩=some (.int .i64 c1)∧X.cell? ⟨w.heap.size+1,1,none⟩=some (.int .i64 r1)∧X.cell? ⟨w.heap.size+1,2,none⟩=some (.int .i64 (y 0))∧X.cell? ⟨w.heap.size+1,3,none⟩=some (.int .i64 (y 1))∧X.cell? ⟨w.heap.size+1,4,none⟩=some (.int .i64 (y 2))∧X.cell? ⟨w.heap.size+1,5,none⟩=some (.int .i64 (y 3))∧X.cell? ⟨w.heap.size+1,6,none⟩=some (.int .i64 (y 4))∧X.cell? ⟨w.heap.size+1,7,none⟩=some (.int .i64 (y 5))):=fun X h=>⟨h.1,Row.cell_at h 0 rfl,Row.cell_at h 1 rfl,Row.cell_at h 2 rfl,Row.cell_at h 3 rfl,Row.cell_at h 4 rfl,Row.cell_at h 5 rfl,Row.cell_at h 6 rfl,Row.cell_at h 7 rfl⟩
 obtain ⟨sy,cy0,cy1,cy2,cy3,cy4,cy5,cy6,cy7⟩:=Fy _ ry
 refine (SE _ (he.below hB)).mono ?_
 rintro e W2 ⟨rfl,h1⟩
 have stp:=St2 hB h1 rx ry;clear hB h1 rx sx cx0 cx1 cx2 cx3 cx4 cx5 cx6 cx7 ry sy cy0 cy1 cy2 cy3 cy4 cy5 cy6 cy7
 obtain ⟨hB,rx,ry⟩:=stp
 obtain ⟨sx,cx0,cx1,cx2,cx3,cx4,cx5,cx6,cx7⟩:=Fx _ rx
 obtain ⟨sy,cy0,cy1,cy2,cy3,cy4,cy5,cy6,cy7⟩:=Fy _ ry
 go_wp2_with fail
 refine (MA _).mono ?_
 rintro e W3 ⟨pa,ca,hA,rfl,h1⟩
 have stp:=St2 hB h1 rx ry;clear hB h1 rx sx cx0 cx1 cx2 cx3 cx4 cx5 cx6 cx7 ry sy cy0 cy1 cy2 cy3 cy4 cy5 cy6 cy7
 obtain ⟨hB,rx,ry⟩:=stp
 obtain ⟨sx,cx0,cx1,cx2,cx3,cx4,cx5,cx6,cx7⟩:=Fx _ rx
 obtain ⟨sy,cy0,cy1,cy2,cy3,cy4,cy5,cy6,cy7⟩:=Fy _ ry
 go_wp2_with fail
 have sB:=hB.size
 refine world_cut (fun X=>Below w.heap.size w X∧Row X w.heap.size (.cells #[.int .i64 c0,.int .i64 r0,.int .i64 (x 0),.int .i64 (x 1),.int .i64 (x 2),.int .i64 (x 3),.int .i64 (x 4),.int .i64 (x 5)] 24)∧Row X (w.heap.size+1) (.cells #[.int .i64 c1,.int .i64 r1,.int .i64 (y 0),.int .i64 (y 1),.int .i64 (y 2),.int .i64 (y 3),.int .i64 (y 4),.int .i64 (y 5)] 24)∧Row X W3.heap.size (.cells #[.string (S A.c.num),.string (S (A.c.den:Int)),.slice pa A.t.length ca,.string (S A.r.num),.string (S (A.r.den:Int))] 30)∧TAt 51 X pa A.t) ⟨BW,RW8,RW8,RW8,TW⟩ ?_
 clear rx
 clear sx cx0 cx1 cx2 cx3 cx4 cx5 cx6 cx7
 clear ry
 clear sy cy0 cy1 cy2 cy3 cy4 cy5 cy6 cy7
 clear hB sB hA
 rintro V4 ⟨hB,rx,ry,ra,hA⟩
 obtain ⟨sx,cx0,cx1,cx2,cx3,cx4,cx5,cx6,cx7⟩:=Fx _ rx
 obtain ⟨sy,cy0,cy1,cy2,cy3,cy4,cy5,cy6,cy7⟩:=Fy _ ry
 obtain ⟨sa,ca0,ca1,ca2,ca3,ca4⟩:=RF5 ra
 refine (MB _).mono ?_
 rintro e W5 ⟨pb,cb,hBt,rfl,h1⟩
 replace hA:=UAt.below hA h1
 have stp:=St3 hB h1 rx ry ra;clear hB h1 rx sx cx0 cx1 cx2 cx3 cx4 cx5 cx6 cx7 ry sy cy0 cy1 cy2 cy3 cy4 cy5 cy6 cy7 ra sa ca0 ca1 ca2 ca3 ca4
 obtain ⟨hB,rx,ry,ra⟩:=stp
 obtain ⟨sx,cx0,cx1,cx2,cx3,cx4,cx5,cx6,cx7⟩:=Fx _ rx
 obtain ⟨sy,cy0,cy1,cy2,cy3,cy4,cy5,cy6,cy7⟩:=Fy _ ry
 obtain ⟨sa,ca0,ca1,ca2,ca3,ca4⟩:=RF5 ra
 go_wp2_with fail
 have sB:=hB.size
 refine world_cut (fun X=>Below w.heap.size w X∧Row X w.heap.size (.cells #[.int .i64 c0,.int .i64 r0,.int .i64 (x 0),.int .i64 (x 1),.int .i64 (x 2),.int .i64 (x 3),.int .i64 (x 4),.int .i64 (x 5)] 24)∧Row X (w.heap.size+1) (.cells #[.int .i64 c1,.int .i64 r1,.int .i64 (y 0),.int .i64 (y 1),.int .i64 (y 2),.int .i64 (y 3),.int .i64 (y 4),.int .i64 (y 5)] 24)∧Row X W3.heap.size (.cells #[.string (S A.c.num),.string (S (A.c.den:Int)),.slice pa A.t.length ca,.string (S A.r.num),.string (S (A.r.den:Int))] 30)∧Row X W5.heap.size (.cells #[.string (S B.c.num),.string (S (B.c.den:Int)),.slice pb B.t.length cb,.string (S B.r.num),.string (S (B.r.den:Int))] 30)∧TAt 51 X pa A.t∧TAt 51 X pb B.t) ⟨BW,RW8,RW8,RW8,RW8,TW,TW⟩ ?_
 clear rx
 clear sx cx0 cx1 cx2 cx3 cx4 cx5 cx6 cx7
 clear ry
 clear sy cy0 cy1 cy2 cy3 cy4 cy5 cy6 cy7
 clear ra
 clear sa ca0 ca1 ca2 ca3 ca4
 clear hB sB hA hBt
 rintro V6 ⟨hB,rx,ry,ra,rb,hA,hBt⟩
 obtain ⟨sx,cx0,cx1,cx2,cx3,cx4,cx5,cx6,cx7⟩:=Fx _ rx
 obtain ⟨sy,cy0,cy1,cy2,cy3,cy4,cy5,cy6,cy7⟩:=Fy _ ry
 obtain ⟨sa,ca0,ca1,ca2,ca3,ca4⟩:=RF5 ra
 obtain ⟨sb,cb0,cb1,cb2,cb3,cb4⟩:=RF5 rb
 refine (PK _).mono ?_
 rintro e W7 ⟨rfl,h1⟩
 replace hA:=UAt.below hA h1
 replace hBt:=UAt.below hBt h1
 have stp:=St4 hB h1 rx ry ra rb;clear hB h1 rx sx cx0 cx1 cx2 cx3 cx4 cx5 cx6 cx7 ry sy cy0 cy1 cy2 cy3 cy4 cy5 cy6 cy7 ra sa ca0 ca1 ca2 ca3 ca4 rb sb cb0 cb1 cb2 cb3 cb4
 obtain ⟨hB,rx,ry,ra,rb⟩:=stp
 obtain ⟨sx,cx0,cx1,cx2,cx3,cx4,cx5,cx6,cx7⟩:=Fx _ rx
 obtain ⟨sy,cy0,cy1,cy2,cy3,cy4,cy5,cy6,cy7⟩:=Fy _ ry
 obtain ⟨sa,ca0,ca1,ca2,ca3,ca4⟩:=RF5 ra
 obtain ⟨sb,cb0,cb1,cb2,cb3,cb4⟩:=RF5 rb
 go_wp2_with fail
 refine (RB _).mono ?_
 rintro e W8 ⟨rfl,h1⟩
 replace hA:=UAt.below hA h1
 replace hBt:=UAt.below hBt h1
 have stp:=St4 hB h1 rx ry ra rb;clear hB h1 rx sx cx0 cx1 cx2 cx3 cx4 cx5 cx6 cx7 ry sy cy0 cy1 cy2 cy3 cy4 cy5 cy6 cy7 ra sa ca0 ca1 ca2 ca3 ca4 rb sb cb0 cb1 cb2 cb3 cb4
 obtain ⟨hB,rx,ry,ra,rb⟩:=stp
 obtain ⟨sx,cx0,cx1,cx2,cx3,cx4,cx5,cx6,cx7⟩:=Fx _ rx
 obtain ⟨sy,cy0,cy1,cy2,cy3,cy4,cy5,cy6,cy7⟩:=Fy _ ry
 obtain ⟨sa,ca0,ca1,ca2,ca3,ca4⟩:=RF5 ra
 obtain ⟨sb,cb0,cb1,cb2,cb3,cb4⟩:=RF5 rb
 go_wp2_with fail
 have sB:=hB.size
 refine world_cut (fun X=>Below w.heap.size w X∧Row X w.heap.size (.cells #[.int .i64 c0,.int .i64 r0,.int .i64 (x 0),.int .i64 (x 1),.int .i64 (x 2),.int .i64 (x 3),.int .i64 (x 4),.int .i64 (x 5)] 24)∧Row X (w.heap.size+1) (.cells #[.int .i64 c1,.int .i64 r1,.int .i64 (y 0),.int .i64 (y 1),.int .i64 (y 2),.int .i64 (y 3),.int .i64 (y 4),.int .i64 (y 5)] 24)∧Row X W3.heap.size (.cells #[.string (S A.c.num),.string (S (A.c.den:Int)),.slice pa A.t.length ca,.string (S A.r.num),.string (S (A.r.den:Int))] 30)∧Row X W5.heap.size (.cells #[.string (S B.c.num),.string (S (B.c.den:Int)),.slice pb B.t.length cb,.string (S B.r.num),.string (S (B.r.den:Int))] 30)∧Row X W8.heap.size (.cells #[.string (S by_.num),.string (S (by_.den:Int))] 27)∧TAt 51 X pa A.t∧TAt 51 X pb B.t) ⟨BW,RW8,RW8,RW8,RW8,RW8,TW,TW⟩ ?_
 clear rx
 clear sx cx0 cx1 cx2 cx3 cx4 cx5 cx6 cx7
 clear ry
 clear sy cy0 cy1 cy2 cy3 cy4 cy5 cy6 cy7
 clear ra
 clear sa ca0 ca1 ca2 ca3 ca4
 clear rb
 clear sb cb0 cb1 cb2 cb3 cb4
 clear hB sB hA hBt
 rintro V9 ⟨hB,rx,ry,ra,rb,rj,hA,hBt⟩
 obtain ⟨sx,cx0,cx1,cx2,cx3,cx4,cx5,cx6,cx7⟩:=Fx _ rx
 obtain ⟨sy,cy0,cy1,cy2,cy3,cy4,cy5,cy6,cy7⟩:=Fy _ ry
 obtain ⟨sa,ca0,ca1,ca2,ca3,ca4⟩:=RF5 ra
 obtain ⟨sb,cb0,cb1,cb2,cb3,cb4⟩:=RF5 rb
 obtain ⟨sj,cj0,cj1⟩:=RF2 rj
 refine (ML _ _ _ _ _ hA hBt (he.below hB)).mono ?_
 rintro e W10 ⟨pm,cm,hM,rfl,h1⟩
 replace hA:=UAt.below hA h1
 replace hBt:=UAt.below hBt h1
 have stp:=St5 hB h1 rx ry ra rb rj;clear hB h1 rx sx cx0 cx1 cx2 cx3 cx4 cx5 cx6 cx7 ry sy cy0 cy1 cy2 cy3 cy4 cy5 cy6 cy7 ra sa ca0 ca1 ca2 ca3 ca4 rb sb cb0 cb1 cb2 cb3 cb4 rj sj cj0 cj1
 obtain ⟨hB,rx,ry,ra,rb,rj⟩:=stp
 obtain ⟨sx,cx0,cx1,cx2,cx3,cx4,cx5,cx6,cx7⟩:=Fx _ rx
 obtain ⟨sy,cy0,cy1,cy2,cy3,cy4,cy5,cy6,cy7⟩:=Fy _ ry
 obtain ⟨sa,ca0,ca1,ca2,ca3,ca4⟩:=RF5 ra
 obtain ⟨sb,cb0,cb1,cb2,cb3,cb4⟩:=RF5 rb
 obtain ⟨sj,cj0,cj1⟩:=RF2 rj
 go_wp2_with fail
 have sB:=hB.size
 refine wp_cut (fun X=>Below w.heap.size w X∧Row X w.heap.size (.cells #[.int .i64 c0,.int .i64 r0,.int .i64 (x 0),.int .i64 (x 1),.int .i64 (x 2),.int .i64 (x 3),.int .i64 (x 4),.int .i64 (x 5)] 24)∧Row X (w.heap.size+1) (.cells #[.int .i64 c1,.int .i64 r1,.int .i64 (y 0),.int .i64 (y 1),.int .i64 (y 2),.int .i64 (y 3),.int .i64 (y 4),.int .i64 (y 5)] 24)∧Row X W3.heap.size (.cells #[.string (S A.c.num),.string (S (A.c.den:Int)),.slice pa A.t.length ca,.string (S A.r.num),.string (S (A.r.den:Int))] 30)∧Row X W5.heap.size (.cells #[.string (S B.c.num),.string (S (B.c.den:Int)),.slice pb B.t.length cb,.string (S B.r.num),.string (S (B.r.den:Int))] 30)∧Row X W8.heap.size (.cells #[.string (S by_.num),.string (S (by_.den:Int))] 27)∧Row X W10.heap.size (.cells #[.string (S M.c.num),.string (S (M.c.den:Int)),.slice pm M.t.length cm,.string (S M.r.num),.string (S (M.r.den:Int))] 30)∧TAt 51 X pa A.t∧TAt 51 X pb B.t∧TAt 51 X pm M.t) ⟨BW,RW8,RW8,RW8,RW8,RW8,RW8,TW,TW,TW⟩ ?_
 clear rx
 clear sx cx0 cx1 cx2 cx3 cx4 cx5 cx6 cx7
 clear ry
 clear sy cy0 cy1 cy2 cy3 cy4 cy5 cy6 cy7
 clear ra
 clear sa ca0 ca1 ca2 ca3 ca4
 clear rb
 clear sb cb0 cb1 cb2 cb3 cb4
 clear rj
 clear sj cj0 cj1
 clear hB sB hA hBt hM
 rintro V11 ⟨hB,rx,ry,ra,rb,rj,rm,hA,hBt,hM⟩
 obtain ⟨sx,cx0,cx1,cx2,cx3,cx4,cx5,cx6,cx7⟩:=Fx _ rx
 obtain ⟨sy,cy0,cy1,cy2,cy3,cy4,cy5,cy6,cy7⟩:=Fy _ ry
 obtain ⟨sa,ca0,ca1,ca2,ca3,ca4⟩:=RF5 ra
 obtain ⟨sb,cb0,cb1,cb2,cb3,cb4⟩:=RF5 rb
 obtain ⟨sj,cj0,cj1⟩:=RF2 rj
 obtain ⟨sm,cm0,cm1,cm2,cm3,cm4⟩:=RF5 rm
 have dx_n:=rx.1
 have dy_n:=ry.1
 have da_n:=ra.1
 have db_n:=rb.1
 have dj_n:=rj.1
 have dm_n:=rm.1
 have d0_n:=hB.size
 refine wp_region_late 8 [6] [.val (.agg #[.string (S by_.num),.string (S (by_.den:Int))]),.val (.agg #[.string (S by_.num),.string (S (by_.den:Int)),.slice none 0 0,.string (S z.num),.string (S (z.den:Int))]),.val (.agg #[.string (S A.c.num),.string (S (A.c.den:Int)),.slice pa A.t.length ca,.string (S A.r.num),.string (S (A.r.den:Int))]),.say (SayFT N),.say (SayFT N),.say (SayF N),.val (.int .i64 0),.say (fresh _ (.cells #[.string ⟨#[]⟩,.string ⟨#[]⟩,.slice none 0 0,.string ⟨#[]⟩,.string ⟨#[]⟩] 30))] [13] (by kernel_rfl) (by kernel_rfl) (by kernel_rfl) rfl ⟨SayFT.mono _,⟨SayFT.mono _,⟨SayF.mono _,⟨fresh_mono _ _,trivial⟩⟩⟩⟩ (allItems.cons (qi1 fun X h=>RF2 (Row.below rj h)) (allItems.cons (qi2 fun X h=>KB X (he.below (hB.trans (h.mono hB.size)))) (allItems.cons (qi1 fun X h=>RF5 (Row.below ra h)) (allItems.cons (qId8 (by intro ρ X qX qc qg qf qt qd;simp [depsSay,itemSp,QItem.sp,Region.binds] at qd;obtain ⟨e1,e2⟩:=qd;simp [Region.wanted,yieldedBy,quietly,QItem.sp,execOp,go_sem,foreign,qc,qt,qf,e1,e2];refine ⟨Below.refl _ _,(FRes.say (MN X _ _ (UAt.below hA qX) (he.below (hB.trans (qX.mono hB.size))))).mono ?_⟩;rintro e Y ⟨v,rfl,hs,h1⟩;exact ⟨_,rfl,hs,h1⟩)) (allItems.cons (qId8 (by intro ρ X qX qc qg qf qt qd;simp [depsSay,itemSp,QItem.sp,Region.binds] at qd;obtain ⟨p,c,e,h1⟩:=qd;simp [Region.wanted,yieldedBy,quietly,QItem.sp,execOp,go_sem,foreign,qc,qt,qf,Below.refl,e];exact ⟨p,c,rfl,h1⟩)) (allItems.cons (qId8 (by intro ρ X qX qc qg qf qt qd;simp [depsSay,itemSp,QItem.sp,Region.binds] at qd;obtain ⟨p,c,e,h1⟩:=qd;simp [Region.wanted,yieldedBy,quietly,QItem.sp,execOp,go_sem,foreign,qc,qt,qf,Below.refl,e];exact ⟨p,c,rfl,h1⟩)) (allItems.cons (qId8 (by intro ρ X qX qc qg qf qt qd;simp [depsSay,itemSp,QItem.sp,Region.binds] at qd;obtain ⟨p,c,e,h1⟩:=qd;simp [Region.wanted,yieldedBy,quietly,QItem.sp,execOp,go_sem,foreign,qc,qt,qf,Below.refl,e])) (allItems.cons qia trivial)))))))) ?_
 rintro W h1
 replace hA:=UAt.below hA h1
 replace hBt:=UAt.below hBt h1
 replace hM:=UAt.below hM h1
 have stp:=St6 hB h1 rx ry ra rb rj rm;clear hB h1 rx sx cx0 cx1 cx2 cx3 cx4 cx5 cx6 cx7 ry sy cy0 cy1 cy2 cy3 cy4 cy5 cy6 cy7 ra sa ca0 ca1 ca2 ca3 ca4 rb sb cb0 cb1 cb2 cb3 cb4 rj sj cj0 cj1 rm sm cm0 cm1 cm2 cm3 cm4
 obtain ⟨hB,rx,ry,ra,rb,rj,rm⟩:=stp
 obtain ⟨sx,cx0,cx1,cx2,cx3,cx4,cx5,cx6,cx7⟩:=Fx _ rx
 obtain ⟨sy,cy0,cy1,cy2,cy3,cy4,cy5,cy6,cy7⟩:=Fy _ ry
 obtain ⟨sa,ca0,ca1,ca2,ca3,ca4⟩:=RF5 ra
 obtain ⟨sb,cb0,cb1,cb2,cb3,cb4⟩:=RF5 rb
 obtain ⟨sj,cj0,cj1⟩:=RF2 rj
 obtain ⟨sm,cm0,cm1,cm2,cm3,cm4⟩:=RF5 rm
 simp only [setItems,List.setIfInBounds_toArray,List.set_cons_succ,List.set_cons_zero,List.take_succ_cons,List.take_zero,List.drop_succ_cons,List.drop_zero]
 rintro _ ⟨p3,c3,rfl,_⟩
 rintro _ ⟨p4,c4,rfl,_⟩
 rintro _ ⟨pN,cN,rfl,hN⟩
 rintro _ ⟨pn,rfl,hn,rn⟩
 replace dx_n:=Nat.lt_of_lt_of_le dx_n hn
 replace dy_n:=Nat.lt_of_lt_of_le dy_n hn
 replace da_n:=Nat.lt_of_lt_of_le da_n hn
 replace db_n:=Nat.lt_of_lt_of_le db_n hn
 replace dj_n:=Nat.lt_of_lt_of_le dj_n hn
 replace dm_n:=Nat.lt_of_lt_of_le dm_n hn
 replace d0_n:=Nat.le_trans d0_n hn
 obtain ⟨sn,cn0,cn1,cn2,cn3,cn4,fn0,fn1,fn2,fn3,fn4⟩:=RFz5 rn
 intro _
 go_wp2_with fail
 unfold normalQ
 go_wp2_with fail
 have sB:=hB.size
 refine world_cut (fun X=>Below w.heap.size w X∧Row X w.heap.size (.cells #[.int .i64 c0,.int .i64 r0,.int .i64 (x 0),.int .i64 (x 1),.int .i64 (x 2),.int .i64 (x 3),.int .i64 (x 4),.int .i64 (x 5)] 24)∧Row X (w.heap.size+1) (.cells #[.int .i64 c1,.int .i64 r1,.int .i64 (y 0),.int .i64 (y 1),.int .i64 (y 2),.int .i64 (y 3),.int .i64 (y 4),.int .i64 (y 5)] 24)∧Row X W3.heap.size (.cells #[.string (S A.c.num),.string (S (A.c.den:Int)),.slice pa A.t.length ca,.string (S A.r.num),.string (S (A.r.den:Int))] 30)∧Row X W5.heap.size (.cells #[.string (S B.c.num),.string (S (B.c.den:Int)),.slice pb B.t.length cb,.string (S B.r.num),.string (S (B.r.den:Int))] 30)∧Row X W8.heap.size (.cells #[.string (S by_.num),.string (S (by_.den:Int))] 27)∧Row X W10.heap.size (.cells #[.string (S M.c.num),.string (S (M.c.den:Int)),.slice pm M.t.length cm,.string (S M.r.num),.string (S (M.r.den:Int))] 30)∧Row X pn (.cells #[.string (S N.c.num),.string (S (N.c.den:Int)),.slice pN N.t.length cN,.string (S N.r.num),.string (S (N.r.den:Int))] 30)∧TAt 51 X pa A.t∧TAt 51 X pb B.t∧TAt 51 X pm M.t∧TAt 51 X pN N.t) ⟨BW,RW8,RW8,RW8,RW8,RW8,RW8,RW8,TW,TW,TW,TW⟩ ?_
 clear rx
 clear sx cx0 cx1 cx2 cx3 cx4 cx5 cx6 cx7
 clear ry
 clear sy cy0 cy1 cy2 cy3 cy4 cy5 cy6 cy7
 clear ra
 clear sa ca0 ca1 ca2 ca3 ca4
 clear rb
 clear sb cb0 cb1 cb2 cb3 cb4
 clear rj
 clear sj cj0 cj1
 clear rm
 clear sm cm0 cm1 cm2 cm3 cm4
 clear rn
 clear sn cn0 cn1 cn2 cn3 cn4 fn0 fn1 fn2 fn3 fn4
 clear hB sB hA hBt hM hN
 rintro V12 ⟨hB,rx,ry,ra,rb,rj,rm,rn,hA,hBt,hM,hN⟩
 obtain ⟨sx,cx0,cx1,cx2,cx3,cx4,cx5,cx6,cx7⟩:=Fx _ rx
 obtain ⟨sy,cy0,cy1,cy2,cy3,cy4,cy5,cy6,cy7⟩:=Fy _ ry
 obtain ⟨sa,ca0,ca1,ca2,ca3,ca4⟩:=RF5 ra
 obtain ⟨sb,cb0,cb1,cb2,cb3,cb4⟩:=RF5 rb
 obtain ⟨sj,cj0,cj1⟩:=RF2 rj
 obtain ⟨sm,cm0,cm1,cm2,cm3,cm4⟩:=RF5 rm
 obtain ⟨sn,cn0,cn1,cn2,cn3,cn4,fn0,fn1,fn2,fn3,fn4⟩:=RFz5 rn
 refine (SC _ _ _ hA (he.below hB)).mono ?_
 rintro e W13 ⟨px,cx,hX,rfl,h1⟩
 replace hA:=UAt.below hA h1
 replace hBt:=UAt.below hBt h1
 replace hM:=UAt.below hM h1
 replace hN:=UAt.below hN h1
 have stp:=St7 hB h1 rx ry ra rb rj rm rn;clear hB h1 rx sx cx0 cx1 cx2 cx3 cx4 cx5 cx6 cx7 ry sy cy0 cy1 cy2 cy3 cy4 cy5 cy6 cy7 ra sa ca0 ca1 ca2 ca3 ca4 rb sb cb0 cb1 cb2 cb3 cb4 rj sj cj0 cj1 rm sm cm0 cm1 cm2 cm3 cm4 rn sn cn0 cn1 cn2 cn3 cn4 fn0 fn1 fn2 fn3 fn4
 obtain ⟨hB,rx,ry,ra,rb,rj,rm,rn⟩:=stp
 obtain ⟨sx,cx0,cx1,cx2,cx3,cx4,cx5,cx6,cx7⟩:=Fx _ rx
 obtain ⟨sy,cy0,cy1,cy2,cy3,cy4,cy5,cy6,cy7⟩:=Fy _ ry
 obtain ⟨sa,ca0,ca1,ca2,ca3,ca4⟩:=RF5 ra
 obtain ⟨sb,cb0,cb1,cb2,cb3,cb4⟩:=RF5 rb
 obtain ⟨sj,cj0,cj1⟩:=RF2 rj
 obtain ⟨sm,cm0,cm1,cm2,cm3,cm4⟩:=RF5 rm
 obtain ⟨sn,cn0,cn1,cn2,cn3,cn4,fn0,fn1,fn2,fn3,fn4⟩:=RFz5 rn
 go_wp2_with fail
 have dn_i:pn<W13.heap.size:=by omega
 have sB:=hB.size
 refine world_cut (fun X=>Below w.heap.size w X∧Row X w.heap.size (.cells #[.int .i64 c0,.int .i64 r0,.int .i64 (x 0),.int .i64 (x 1),.int .i64 (x 2),.int .i64 (x 3),.int .i64 (x 4),.int .i64 (x 5)] 24)∧Row X (w.heap.size+1) (.cells #[.int .i64 c1,.int .i64 r1,.int .i64 (y 0),.int .i64 (y 1),.int .i64 (y 2),.int .i64 (y 3),.int .i64 (y 4),.int .i64 (y 5)] 24)∧Row X W3.heap.size (.cells #[.string (S A.c.num),.string (S (A.c.den:Int)),.slice pa A.t.length ca,.string (S A.r.num),.string (S (A.r.den:Int))] 30)∧Row X W5.heap.size (.cells #[.string (S B.c.num),.string (S (B.c.den:Int)),.slice pb B.t.length cb,.string (S B.r.num),.string (S (B.r.den:Int))] 30)∧Row X W8.heap.size (.cells #[.string (S by_.num),.string (S (by_.den:Int))] 27)∧Row X W10.heap.size (.cells #[.string (S M.c.num),.string (S (M.c.den:Int)),.slice pm M.t.length cm,.string (S M.r.num),.string (S (M.r.den:Int))] 30)∧Row X pn (.cells #[.string (S N.c.num),.string (S (N.c.den:Int)),.slice pN N.t.length cN,.string (S N.r.num),.string (S (N.r.den:Int))] 30)∧Row X W13.heap.size (.cells #[.string (S N.c.num),.string (S (N.c.den:Int)),.slice px N.t.length cx,.string (S N.r.num),.string (S (N.r.den:Int))] 30)∧TAt 51 X pa A.t∧TAt 51 X pb B.t∧TAt 51 X pm M.t∧TAt 51 X pN N.t∧TAt 51 X px N.t) ⟨BW,RW8,RW8,RW8,RW8,RW8,RW8,RW8,RW8,TW,TW,TW,TW,TW⟩ ?_
 clear rx
 clear sx cx0 cx1 cx2 cx3 cx4 cx5 cx6 cx7
 clear ry
 clear sy cy0 cy1 cy2 cy3 cy4 cy5 cy6 cy7
 clear ra
 clear sa ca0 ca1 ca2 ca3 ca4
 clear rb
 clear sb cb0 cb1 cb2 cb3 cb4
 clear rj
 clear sj cj0 cj1
 clear rm
 clear sm cm0 cm1 cm2 cm3 cm4
 clear rn
 clear sn cn0 cn1 cn2 cn3 cn4 fn0 fn1 fn2 fn3 fn4
 clear hB sB hA hBt hM hN hX
 rintro V14 ⟨hB,rx,ry,ra,rb,rj,rm,rn,ri,hA,hBt,hM,hN,hX⟩
 obtain ⟨sx,cx0,cx1,cx2,cx3,cx4,cx5,cx6,cx7⟩:=Fx _ rx
 obtain ⟨sy,cy0,cy1,cy2,cy3,cy4,cy5,cy6,cy7⟩:=Fy _ ry
 obtain ⟨sa,ca0,ca1,ca2,ca3,ca4⟩:=RF5 ra
 obtain ⟨sb,cb0,cb1,cb2,cb3,cb4⟩:=RF5 rb
 obtain ⟨sj,cj0,cj1⟩:=RF2 rj
 obtain ⟨sm,cm0,cm1,cm2,cm3,cm4⟩:=RF5 rm
 obtain ⟨sn,cn0,cn1,cn2,cn3,cn4,fn0,fn1,fn2,fn3,fn4⟩:=RFz5 rn
 obtain ⟨si,ci0,ci1,ci2,ci3,ci4⟩:=RF5 ri
 refine (SN _ _ _ _ _ hN hX).mono ?_
 rintro e W15 ⟨rfl,h1⟩
 replace hA:=UAt.below hA h1
 replace hBt:=UAt.below hBt h1
 replace hM:=UAt.below hM h1
 replace hN:=UAt.below hN h1
 replace hX:=UAt.below hX h1
 have stp:=St8 hB h1 rx ry ra rb rj rm rn ri;clear hB h1 rx sx cx0 cx1 cx2 cx3 cx4 cx5 cx6 cx7 ry sy cy0 cy1 cy2 cy3 cy4 cy5 cy6 cy7 ra sa ca0 ca1 ca2 ca3 ca4 rb sb cb0 cb1 cb2 cb3 cb4 rj sj cj0 cj1 rm sm cm0 cm1 cm2 cm3 cm4 rn sn cn0 cn1 cn2 cn3 cn4 fn0 fn1 fn2 fn3 fn4 ri si ci0 ci1 ci2 ci3 ci4
 obtain ⟨hB,rx,ry,ra,rb,rj,rm,rn,ri⟩:=stp
 obtain ⟨sx,cx0,cx1,cx2,cx3,cx4,cx5,cx6,cx7⟩:=Fx _ rx
 obtain ⟨sy,cy0,cy1,cy2,cy3,cy4,cy5,cy6,cy7⟩:=Fy _ ry
 obtain ⟨sa,ca0,ca1,ca2,ca3,ca4⟩:=RF5 ra
 obtain ⟨sb,cb0,cb1,cb2,cb3,cb4⟩:=RF5 rb
 obtain ⟨sj,cj0,cj1⟩:=RF2 rj
 obtain ⟨sm,cm0,cm1,cm2,cm3,cm4⟩:=RF5 rm
 obtain ⟨sn,cn0,cn1,cn2,cn3,cn4,fn0,fn1,fn2,fn3,fn4⟩:=RFz5 rn
 obtain ⟨si,ci0,ci1,ci2,ci3,ci4⟩:=RF5 ri
 have hA0:=hA
 have hBt0:=hBt
 have hM0:=hM
 clear hA hBt hM hN hX
 go_wp2_with fail
 go_loopw [17] (fun v17 wr=>∃ i:Nat,v17 = .int .i64 (i:Int)∧i≤7∧TAt 51 wr pa A.t∧TAt 51 wr pb B.t∧TAt 51 wr pm M.t∧Below w.heap.size w wr∧Row wr w.heap.size (.cells #[.int .i64 c0,.int .i64 r0,.int .i64 (x 0),.int .i64 (x 1),.int .i64 (x 2),.int .i64 (x 3),.int .i64 (x 4),.int .i64 (x 5)] 24)∧Row wr (w.heap.size+1) (.cells #[.int .i64 c1,.int .i64 r1,.int .i64 (y 0),.int .i64 (y 1),.int .i64 (y 2),.int .i64 (y 3),.int .i64 (y 4),.int .i64 (y 5)] 24)∧Row wr W3.heap.size (.cells #[.string (S A.c.num),.string (S (A.c.den:Int)),.slice pa A.t.length ca,.string (S A.r.num),.string (S (A.r.den:Int))] 30)∧Row wr W5.heap.size (.cells #[.string (S B.c.num),.string (S (B.c.den:Int)),.slice pb B.t.length cb,.string (S B.r.num),.string (S (B.r.den:Int))] 30)∧Row wr W8.heap.size (.cells #[.string (S by_.num),.string (S (by_.den:Int))] 27)∧Row wr W10.heap.size (.cells #[.string (S M.c.num),.string (S (M.c.den:Int)),.slice pm M.t.length cm,.string (S M.r.num),.string (S (M.r.den:Int))] 30)∧Row wr pn (.cells #[.string (S N.c.num),.string (S (N.c.den:Int)),.slice pN N.t.length cN,.string (S N.r.num),.string (S (N.r.den:Int))] 30)∧Row wr W13.heap.size (.cells #[.string (S N.c.num),.string (S (N.c.den:Int)),.slice px N.t.length cx,.string (S N.r.num),.string (S (N.r.den:Int))] 30)) (fun v17 _=>(7 - intOf v17).toNat)
 case atStart=>exact ⟨1,rfl,by omega,hA0,hBt0,hM0,hB,rx,ry,ra,rb,rj,rm,rn,ri⟩
 case round =>
  clear sx cx0 cx1 cx2 cx3 cx4 cx5 cx6 cx7
  clear sy cy0 cy1 cy2 cy3 cy4 cy5 cy6 cy7
  clear sa ca0 ca1 ca2 ca3 ca4
  clear sb cb0 cb1 cb2 cb3 cb4
  clear sj cj0 cj1
  clear sm cm0 cm1 cm2 cm3 cm4
  clear sn cn0 cn1 cn2 cn3 cn4 fn0 fn1 fn2 fn3 fn4
  clear si ci0 ci1 ci2 ci3 ci4
  clear hB rx ry ra rb rj rm rn ri
  obtain ⟨i,rfl,hi7,hA,hBt,hM,hB,rx,ry,ra,rb,rj,rm,rn,ri⟩:=hrel
  clear hA0 hBt0 hM0
  rcases Nat.lt_or_ge i 7 with hlt | hge
  ·obtain ⟨sx,cx0,cx1,cx2,cx3,cx4,cx5,cx6,cx7⟩:=Fx _ rx
   obtain ⟨sy,cy0,cy1,cy2,cy3,cy4,cy5,cy6,cy7⟩:=Fy _ ry
   obtain ⟨sa,ca0,ca1,ca2,ca3,ca4⟩:=RF5 ra
   obtain ⟨sb,cb0,cb1,cb2,cb3,cb4⟩:=RF5 rb
   obtain ⟨sj,cj0,cj1⟩:=RF2 rj
   obtain ⟨sm,cm0,cm1,cm2,cm3,cm4⟩:=RF5 rm
   obtain ⟨sn,cn0,cn1,cn2,cn3,cn4,fn0,fn1,fn2,fn3,fn4⟩:=RFz5 rn
   obtain ⟨si,ci0,ci1,ci2,ci3,ci4⟩:=RF5 ri
   have hi:(i:Int)≤6:=by omega
   have CA:=fun W p c h=>CA W p c i h
   have CB:=fun W p c h=>CB W p c i h
   have CM:=fun W p c h=>CM W p c i h
   have P1:=fun W H=>P1 W i H
   have Q1:=fun W H=>Q1 W i H
   have S1:=fun W H=>S1 W i H
   generalize fA i=qa at CA CB CM P1 Q1 S1
   generalize fB i=qb at CA CB CM P1 Q1 S1
   generalize fM i=qm at CA CB CM P1 Q1 S1
   generalize fp i=qp at CA CB CM P1 Q1 S1
   generalize fq i=qq at CA CB CM P1 Q1 S1
   go_wp2_with fail
   have dx_t:=rx.1
   have dy_t:=ry.1
   have da_t:=ra.1
   have db_t:=rb.1
   have dj_t:=rj.1
   have dm_t:=rm.1
   have dn_t:=rn.1
   have di_t:=ri.1
   have d0_t:=hB.size
   refine wp_region_late 10 [8] [.val (.pointer (some ⟨W3.heap.size,0,none⟩)),.val (.agg #[.string (S A.c.num),.string (S (A.c.den:Int))]),.val (.agg #[.string (S B.c.num),.string (S (B.c.den:Int)),.slice pb B.t.length cb,.string (S B.r.num),.string (S (B.r.den:Int))]),.val (.int .i64 (i:Int)),.val (.agg #[.string (S qb.num),.string (S (qb.den:Int))]),.val (.tuple #[.agg #[.string (S qp.num),.string (S (qp.den:Int))],.int .i64 0]),.val (.tuple #[.agg #[.string (S qp.num),.string (S (qp.den:Int))],.int .i64 0]),.val (.agg #[.string (S qp.num),.string (S (qp.den:Int))]),.val (.int .i64 0),.say (fresh _ (.cells #[.string ⟨#[]⟩,.string ⟨#[]⟩] 27))] [18] (by kernel_rfl) (by kernel_rfl) (by kernel_rfl) rfl ⟨fresh_mono _ _,trivial⟩ (allItems.cons qi0 (allItems.cons (qi1 fun X h=>RF5 (Row.below ra h)) (allItems.cons (qi1 fun X h=>RF5 (Row.below rb h)) (allItems.cons qi0 (allItems.cons (qi2 fun X h=>CB X _ _ (UAt.below hBt h)) (allItems.cons (qi2 fun X h=>P1 X (he.below (hB.trans (h.mono hB.size)))) (allItems.cons qi0 (allItems.cons qi0 (allItems.cons qi0 (allItems.cons qia trivial)))))))))) ?_
   rintro W h1
   replace hA:=UAt.below hA h1
   replace hBt:=UAt.below hBt h1
   replace hM:=UAt.below hM h1
   have stp:=St8 hB h1 rx ry ra rb rj rm rn ri;clear hB h1 rx sx cx0 cx1 cx2 cx3 cx4 cx5 cx6 cx7 ry sy cy0 cy1 cy2 cy3 cy4 cy5 cy6 cy7 ra sa ca0 ca1 ca2 ca3 ca4 rb sb cb0 cb1 cb2 cb3 cb4 rj sj cj0 cj1 rm sm cm0 cm1 cm2 cm3 cm4 rn sn cn0 cn1 cn2 cn3 cn4 fn0 fn1 fn2 fn3 fn4 ri si ci0 ci1 ci2 ci3 ci4
   obtain ⟨hB,rx,ry,ra,rb,rj,rm,rn,ri⟩:=stp
   obtain ⟨sx,cx0,cx1,cx2,cx3,cx4,cx5,cx6,cx7⟩:=Fx _ rx
   obtain ⟨sy,cy0,cy1,cy2,cy3,cy4,cy5,cy6,cy7⟩:=Fy _ ry
   obtain ⟨sa,ca0,ca1,ca2,ca3,ca4⟩:=RF5 ra
   obtain ⟨sb,cb0,cb1,cb2,cb3,cb4⟩:=RF5 rb
   obtain ⟨sj,cj0,cj1⟩:=RF2 rj
   obtain ⟨sm,cm0,cm1,cm2,cm3,cm4⟩:=RF5 rm
   obtain ⟨sn,cn0,cn1,cn2,cn3,cn4,fn0,fn1,fn2,fn3,fn4⟩:=RFz5 rn
   obtain ⟨si,ci0,ci1,ci2,ci3,ci4⟩:=RF5 ri
   simp only [setItems,List.setIfInBounds_toArray,List.set_cons_succ,List.set_cons_zero,List.take_succ_cons,List.take_zero,List.drop_succ_cons,List.drop_zero]
   rintro _ ⟨pt,rfl,ht,rt⟩
   replace dx_t:=Nat.lt_of_lt_of_le dx_t ht
   replace dy_t:=Nat.lt_of_lt_of_le dy_t ht
   replace da_t:=Nat.lt_of_lt_of_le da_t ht
   replace db_t:=Nat.lt_of_lt_of_le db_t ht
   replace dj_t:=Nat.lt_of_lt_of_le dj_t ht
   replace dm_t:=Nat.lt_of_lt_of_le dm_t ht
   replace dn_t:=Nat.lt_of_lt_of_le dn_t ht
   replace di_t:=Nat.lt_of_lt_of_le di_t ht
   replace d0_t:=Nat.le_trans d0_t ht
   obtain ⟨st,ct0,ct1,ft0,ft1⟩:=RFz2 rt
   intro _
   go_wp2_with fail
   unfold normalQ
   go_wp2_with fail
   have sB:=hB.size
   refine wp_cut (fun X=>Below w.heap.size w X∧Row X w.heap.size (.cells #[.int .i64 c0,.int .i64 r0,.int .i64 (x 0),.int .i64 (x 1),.int .i64 (x 2),.int .i64 (x 3),.int .i64 (x 4),.int .i64 (x 5)] 24)∧Row X (w.heap.size+1) (.cells #[.int .i64 c1,.int .i64 r1,.int .i64 (y 0),.int .i64 (y 1),.int .i64 (y 2),.int .i64 (y 3),.int .i64 (y 4),.int .i64 (y 5)] 24)∧Row X W3.heap.size (.cells #[.string (S A.c.num),.string (S (A.c.den:Int)),.slice pa A.t.length ca,.string (S A.r.num),.string (S (A.r.den:Int))] 30)∧Row X W5.heap.size (.cells #[.string (S B.c.num),.string (S (B.c.den:Int)),.slice pb B.t.length cb,.string (S B.r.num),.string (S (B.r.den:Int))] 30)∧Row X W8.heap.size (.cells #[.string (S by_.num),.string (S (by_.den:Int))] 27)∧Row X W10.heap.size (.cells #[.string (S M.c.num),.string (S (M.c.den:Int)),.slice pm M.t.length cm,.string (S M.r.num),.string (S (M.r.den:Int))] 30)∧Row X pn (.cells #[.string (S N.c.num),.string (S (N.c.den:Int)),.slice pN N.t.length cN,.string (S N.r.num),.string (S (N.r.den:Int))] 30)∧Row X W13.heap.size (.cells #[.string (S N.c.num),.string (S (N.c.den:Int)),.slice px N.t.length cx,.string (S N.r.num),.string (S (N.r.den:Int))] 30)∧Row X pt (.cells #[.string (S qp.num),.string (S (qp.den:Int))] 27)∧TAt 51 X pa A.t∧TAt 51 X pb B.t∧TAt 51 X pm M.t) ⟨BW,RW8,RW8,RW8,RW8,RW8,RW8,RW8,RW8,RW8,TW,TW,TW⟩ ?_
   clear rx
   clear sx cx0 cx1 cx2 cx3 cx4 cx5 cx6 cx7
   clear ry
   clear sy cy0 cy1 cy2 cy3 cy4 cy5 cy6 cy7
   clear ra
   clear sa ca0 ca1 ca2 ca3 ca4
   clear rb
   clear sb cb0 cb1 cb2 cb3 cb4
   clear rj
   clear sj cj0 cj1
   clear rm
   clear sm cm0 cm1 cm2 cm3 cm4
   clear rn
   clear sn cn0 cn1 cn2 cn3 cn4 fn0 fn1 fn2 fn3 fn4
   clear ri
   clear si ci0 ci1 ci2 ci3 ci4
   clear rt
   clear st ct0 ct1 ft0 ft1
   clear hB sB hA hBt hM
   rintro V16 ⟨hB,rx,ry,ra,rb,rj,rm,rn,ri,rt,hA,hBt,hM⟩
   obtain ⟨sx,cx0,cx1,cx2,cx3,cx4,cx5,cx6,cx7⟩:=Fx _ rx
   obtain ⟨sy,cy0,cy1,cy2,cy3,cy4,cy5,cy6,cy7⟩:=Fy _ ry
   obtain ⟨sa,ca0,ca1,ca2,ca3,ca4⟩:=RF5 ra
   obtain ⟨sb,cb0,cb1,cb2,cb3,cb4⟩:=RF5 rb
   obtain ⟨sj,cj0,cj1⟩:=RF2 rj
   obtain ⟨sm,cm0,cm1,cm2,cm3,cm4⟩:=RF5 rm
   obtain ⟨sn,cn0,cn1,cn2,cn3,cn4,fn0,fn1,fn2,fn3,fn4⟩:=RFz5 rn
   obtain ⟨si,ci0,ci1,ci2,ci3,ci4⟩:=RF5 ri
   obtain ⟨st,ct0,ct1,ft0,ft1⟩:=RFz2 rt
   have dx_u:=rx.1
   have dy_u:=ry.1
   have da_u:=ra.1
   have db_u:=rb.1
   have dj_u:=rj.1
   have dm_u:=rm.1
   have dn_u:=rn.1
   have di_u:=ri.1
   have dt_u:=rt.1
   have d0_u:=hB.size
   refine wp_region_late 10 [8] [.val (.pointer (some ⟨W5.heap.size,0,none⟩)),.val (.agg #[.string (S B.c.num),.string (S (B.c.den:Int))]),.val (.agg #[.string (S A.c.num),.string (S (A.c.den:Int)),.slice pa A.t.length ca,.string (S A.r.num),.string (S (A.r.den:Int))]),.val (.int .i64 (i:Int)),.val (.agg #[.string (S qa.num),.string (S (qa.den:Int))]),.val (.tuple #[.agg #[.string (S qq.num),.string (S (qq.den:Int))],.int .i64 0]),.val (.tuple #[.agg #[.string (S qq.num),.string (S (qq.den:Int))],.int .i64 0]),.val (.agg #[.string (S qq.num),.string (S (qq.den:Int))]),.val (.int .i64 0),.say (fresh _ (.cells #[.string ⟨#[]⟩,.string ⟨#[]⟩] 27))] [20] (by kernel_rfl) (by kernel_rfl) (by kernel_rfl) rfl ⟨fresh_mono _ _,trivial⟩ (allItems.cons qi0 (allItems.cons (qi1 fun X h=>RF5 (Row.below rb h)) (allItems.cons (qi1 fun X h=>RF5 (Row.below ra h)) (allItems.cons qi0 (allItems.cons (qi2 fun X h=>CA X _ _ (UAt.below hA h)) (allItems.cons (qi2 fun X h=>Q1 X (he.below (hB.trans (h.mono hB.size)))) (allItems.cons qi0 (allItems.cons qi0 (allItems.cons qi0 (allItems.cons qia trivial)))))))))) ?_
   rintro W h1
   clear sx cx0 cx1 cx2 cx3 cx4 cx5 cx6 cx7
   clear sy cy0 cy1 cy2 cy3 cy4 cy5 cy6 cy7
   clear sa ca0 ca1 ca2 ca3 ca4
   clear sb cb0 cb1 cb2 cb3 cb4
   clear sj cj0 cj1
   clear sm cm0 cm1 cm2 cm3 cm4
   clear sn cn0 cn1 cn2 cn3 cn4 fn0 fn1 fn2 fn3 fn4
   clear si ci0 ci1 ci2 ci3 ci4
   clear st ct0 ct1 ft0 ft1
   replace hB:=hB.trans (h1.mono hB.size)
   replace rx:=Row.below rx h1
   replace ry:=Row.below ry h1
   replace ra:=Row.below ra h1
   replace rb:=Row.below rb h1
   replace rj:=Row.below rj h1
   replace rm:=Row.below rm h1
   replace rn:=Row.below rn h1
   replace ri:=Row.below ri h1
   replace rt:=Row.below rt h1
   replace hA:=UAt.below hA h1
   replace hBt:=UAt.below hBt h1
   replace hM:=UAt.below hM h1
   clear h1
   obtain ⟨sx,cx0,cx1,cx2,cx3,cx4,cx5,cx6,cx7⟩:=Fx _ rx
   obtain ⟨sy,cy0,cy1,cy2,cy3,cy4,cy5,cy6,cy7⟩:=Fy _ ry
   obtain ⟨sa,ca0,ca1,ca2,ca3,ca4⟩:=RF5 ra
   obtain ⟨sb,cb0,cb1,cb2,cb3,cb4⟩:=RF5 rb
   obtain ⟨sj,cj0,cj1⟩:=RF2 rj
   obtain ⟨sm,cm0,cm1,cm2,cm3,cm4⟩:=RF5 rm
   obtain ⟨sn,cn0,cn1,cn2,cn3,cn4,fn0,fn1,fn2,fn3,fn4⟩:=RFz5 rn
   obtain ⟨si,ci0,ci1,ci2,ci3,ci4⟩:=RF5 ri
   obtain ⟨st,ct0,ct1,ft0,ft1⟩:=RFz2 rt
   simp only [setItems,List.setIfInBounds_toArray,List.set_cons_succ,List.set_cons_zero,List.take_succ_cons,List.take_zero,List.drop_succ_cons,List.drop_zero]
   rintro _ ⟨pu,rfl,hu,ru⟩
   replace dx_u:=Nat.lt_of_lt_of_le dx_u hu
   replace dy_u:=Nat.lt_of_lt_of_le dy_u hu
   replace da_u:=Nat.lt_of_lt_of_le da_u hu
   replace db_u:=Nat.lt_of_lt_of_le db_u hu
   replace dj_u:=Nat.lt_of_lt_of_le dj_u hu
   replace dm_u:=Nat.lt_of_lt_of_le dm_u hu
   replace dn_u:=Nat.lt_of_lt_of_le dn_u hu
   replace di_u:=Nat.lt_of_lt_of_le di_u hu
   replace dt_u:=Nat.lt_of_lt_of_le dt_u hu
   replace d0_u:=Nat.le_trans d0_u hu
   obtain ⟨su,cu0,cu1,fu0,fu1⟩:=RFz2 ru
   intro _
   go_wp2_with fail
   unfold normalQ
   go_wp2_with fail
   have sB:=hB.size
   refine world_cut (fun X=>Below w.heap.size w X∧Row X w.heap.size (.cells #[.int .i64 c0,.int .i64 r0,.int .i64 (x 0),.int .i64 (x 1),.int .i64 (x 2),.int .i64 (x 3),.int .i64 (x 4),.int .i64 (x 5)] 24)∧Row X (w.heap.size+1) (.cells #[.int .i64 c1,.int .i64 r1,.int .i64 (y 0),.int .i64 (y 1),.int .i64 (y 2),.int .i64 (y 3),.int .i64 (y 4),.int .i64 (y 5)] 24)∧Row X W3.heap.size (.cells #[.string (S A.c.num),.string (S (A.c.den:Int)),.slice pa A.t.length ca,.string (S A.r.num),.string (S (A.r.den:Int))] 30)∧Row X W5.heap.size (.cells #[.string (S B.c.num),.string (S (B.c.den:Int)),.slice pb B.t.length cb,.string (S B.r.num),.string (S (B.r.den:Int))] 30)∧Row X W8.heap.size (.cells #[.string (S by_.num),.string (S (by_.den:Int))] 27)∧Row X W10.heap.size (.cells #[.string (S M.c.num),.string (S (M.c.den:Int)),.slice pm M.t.length cm,.string (S M.r.num),.string (S (M.r.den:Int))] 30)∧Row X pn (.cells #[.string (S N.c.num),.string (S (N.c.den:Int)),.slice pN N.t.length cN,.string (S N.r.num),.string (S (N.r.den:Int))] 30)∧Row X W13.heap.size (.cells #[.string (S N.c.num),.string (S (N.c.den:Int)),.slice px N.t.length cx,.string (S N.r.num),.string (S (N.r.den:Int))] 30)∧Row X pt (.cells #[.string (S qp.num),.string (S (qp.den:Int))] 27)∧Row X pu (.cells #[.string (S qq.num),.string (S (qq.den:Int))] 27)∧TAt 51 X pa A.t∧TAt 51 X pb B.t∧TAt 51 X pm M.t) ⟨BW,RW8,RW8,RW8,RW8,RW8,RW8,RW8,RW8,RW8,RW8,TW,TW,TW⟩ ?_
   clear rx
   clear sx cx0 cx1 cx2 cx3 cx4 cx5 cx6 cx7
   clear ry
   clear sy cy0 cy1 cy2 cy3 cy4 cy5 cy6 cy7
   clear ra
   clear sa ca0 ca1 ca2 ca3 ca4
   clear rb
   clear sb cb0 cb1 cb2 cb3 cb4
   clear rj
   clear sj cj0 cj1
   clear rm
   clear sm cm0 cm1 cm2 cm3 cm4
   clear rn
   clear sn cn0 cn1 cn2 cn3 cn4 fn0 fn1 fn2 fn3 fn4
   clear ri
   clear si ci0 ci1 ci2 ci3 ci4
   clear rt
   clear st ct0 ct1 ft0 ft1
   clear ru
   clear su cu0 cu1 fu0 fu1
   clear hB sB hA hBt hM
   rintro V17 ⟨hB,rx,ry,ra,rb,rj,rm,rn,ri,rt,ru,hA,hBt,hM⟩
   obtain ⟨sx,cx0,cx1,cx2,cx3,cx4,cx5,cx6,cx7⟩:=Fx _ rx
   obtain ⟨sy,cy0,cy1,cy2,cy3,cy4,cy5,cy6,cy7⟩:=Fy _ ry
   obtain ⟨sa,ca0,ca1,ca2,ca3,ca4⟩:=RF5 ra
   obtain ⟨sb,cb0,cb1,cb2,cb3,cb4⟩:=RF5 rb
   obtain ⟨sj,cj0,cj1⟩:=RF2 rj
   obtain ⟨sm,cm0,cm1,cm2,cm3,cm4⟩:=RF5 rm
   obtain ⟨sn,cn0,cn1,cn2,cn3,cn4,fn0,fn1,fn2,fn3,fn4⟩:=RFz5 rn
   obtain ⟨si,ci0,ci1,ci2,ci3,ci4⟩:=RF5 ri
   obtain ⟨st,ct0,ct1,ft0,ft1⟩:=RFz2 rt
   obtain ⟨su,cu0,cu1,fu0,fu1⟩:=RFz2 ru
   refine (S1 _ (he.below hB)).mono ?_
   rintro e W18 ⟨rfl,h1⟩
   clear sx cx0 cx1 cx2 cx3 cx4 cx5 cx6 cx7
   clear sy cy0 cy1 cy2 cy3 cy4 cy5 cy6 cy7
   clear sa ca0 ca1 ca2 ca3 ca4
   clear sb cb0 cb1 cb2 cb3 cb4
   clear sj cj0 cj1
   clear sm cm0 cm1 cm2 cm3 cm4
   clear sn cn0 cn1 cn2 cn3 cn4 fn0 fn1 fn2 fn3 fn4
   clear si ci0 ci1 ci2 ci3 ci4
   clear st ct0 ct1 ft0 ft1
   clear su cu0 cu1 fu0 fu1
   replace hB:=hB.trans (h1.mono hB.size)
   replace rx:=Row.below rx h1
   replace ry:=Row.below ry h1
   replace ra:=Row.below ra h1
   replace rb:=Row.below rb h1
   replace rj:=Row.below rj h1
   replace rm:=Row.below rm h1
   replace rn:=Row.below rn h1
   replace ri:=Row.below ri h1
   replace rt:=Row.below rt h1
   replace ru:=Row.below ru h1
   replace hA:=UAt.below hA h1
   replace hBt:=UAt.below hBt h1
   replace hM:=UAt.below hM h1
   clear h1
   obtain ⟨sx,cx0,cx1,cx2,cx3,cx4,cx5,cx6,cx7⟩:=Fx _ rx
   obtain ⟨sy,cy0,cy1,cy2,cy3,cy4,cy5,cy6,cy7⟩:=Fy _ ry
   obtain ⟨sa,ca0,ca1,ca2,ca3,ca4⟩:=RF5 ra
   obtain ⟨sb,cb0,cb1,cb2,cb3,cb4⟩:=RF5 rb
   obtain ⟨sj,cj0,cj1⟩:=RF2 rj
   obtain ⟨sm,cm0,cm1,cm2,cm3,cm4⟩:=RF5 rm
   obtain ⟨sn,cn0,cn1,cn2,cn3,cn4,fn0,fn1,fn2,fn3,fn4⟩:=RFz5 rn
   obtain ⟨si,ci0,ci1,ci2,ci3,ci4⟩:=RF5 ri
   obtain ⟨st,ct0,ct1,ft0,ft1⟩:=RFz2 rt
   obtain ⟨su,cu0,cu1,fu0,fu1⟩:=RFz2 ru
   go_wp2_with fail
   have dn_v:pn<W18.heap.size:=by omega
   have dt_v:pt<W18.heap.size:=by omega
   have du_v:pu<W18.heap.size:=by omega
   have sB:=hB.size
   refine wp_cut (fun X=>Below w.heap.size w X∧Row X w.heap.size (.cells #[.int .i64 c0,.int .i64 r0,.int .i64 (x 0),.int .i64 (x 1),.int .i64 (x 2),.int .i64 (x 3),.int .i64 (x 4),.int .i64 (x 5)] 24)∧Row X (w.heap.size+1) (.cells #[.int .i64 c1,.int .i64 r1,.int .i64 (y 0),.int .i64 (y 1),.int .i64 (y 2),.int .i64 (y 3),.int .i64 (y 4),.int .i64 (y 5)] 24)∧Row X W3.heap.size (.cells #[.string (S A.c.num),.string (S (A.c.den:Int)),.slice pa A.t.length ca,.string (S A.r.num),.string (S (A.r.den:Int))] 30)∧Row X W5.heap.size (.cells #[.string (S B.c.num),.string (S (B.c.den:Int)),.slice pb B.t.length cb,.string (S B.r.num),.string (S (B.r.den:Int))] 30)∧Row X W8.heap.size (.cells #[.string (S by_.num),.string (S (by_.den:Int))] 27)∧Row X W10.heap.size (.cells #[.string (S M.c.num),.string (S (M.c.den:Int)),.slice pm M.t.length cm,.string (S M.r.num),.string (S (M.r.den:Int))] 30)∧Row X pn (.cells #[.string (S N.c.num),.string (S (N.c.den:Int)),.slice pN N.t.length cN,.string (S N.r.num),.string (S (N.r.den:Int))] 30)∧Row X W13.heap.size (.cells #[.string (S N.c.num),.string (S (N.c.den:Int)),.slice px N.t.length cx,.string (S N.r.num),.string (S (N.r.den:Int))] 30)∧Row X pt (.cells #[.string (S qp.num),.string (S (qp.den:Int))] 27)∧Row X pu (.cells #[.string (S qq.num),.string (S (qq.den:Int))] 27)∧Row X W18.heap.size (.cells #[.string (S qm.num),.string (S (qm.den:Int))] 27)∧TAt 51 X pa A.t∧TAt 51 X pb B.t∧TAt 51 X pm M.t) ⟨BW,RW8,RW8,RW8,RW8,RW8,RW8,RW8,RW8,RW8,RW8,RW8,TW,TW,TW⟩ ?_
   clear rx
   clear sx cx0 cx1 cx2 cx3 cx4 cx5 cx6 cx7
   clear ry
   clear sy cy0 cy1 cy2 cy3 cy4 cy5 cy6 cy7
   clear ra
   clear sa ca0 ca1 ca2 ca3 ca4
   clear rb
   clear sb cb0 cb1 cb2 cb3 cb4
   clear rj
   clear sj cj0 cj1
   clear rm
   clear sm cm0 cm1 cm2 cm3 cm4
   clear rn
   clear sn cn0 cn1 cn2 cn3 cn4 fn0 fn1 fn2 fn3 fn4
   clear ri
   clear si ci0 ci1 ci2 ci3 ci4
   clear rt
   clear st ct0 ct1 ft0 ft1
   clear ru
   clear su cu0 cu1 fu0 fu1
   clear hB sB hA hBt hM
   rintro V19 ⟨hB,rx,ry,ra,rb,rj,rm,rn,ri,rt,ru,rv,hA,hBt,hM⟩
   obtain ⟨sx,cx0,cx1,cx2,cx3,cx4,cx5,cx6,cx7⟩:=Fx _ rx
   obtain ⟨sy,cy0,cy1,cy2,cy3,cy4,cy5,cy6,cy7⟩:=Fy _ ry
   obtain ⟨sa,ca0,ca1,ca2,ca3,ca4⟩:=RF5 ra
   obtain ⟨sb,cb0,cb1,cb2,cb3,cb4⟩:=RF5 rb
   obtain ⟨sj,cj0,cj1⟩:=RF2 rj
   obtain ⟨sm,cm0,cm1,cm2,cm3,cm4⟩:=RF5 rm
   obtain ⟨sn,cn0,cn1,cn2,cn3,cn4,fn0,fn1,fn2,fn3,fn4⟩:=RFz5 rn
   obtain ⟨si,ci0,ci1,ci2,ci3,ci4⟩:=RF5 ri
   obtain ⟨st,ct0,ct1,ft0,ft1⟩:=RFz2 rt
   obtain ⟨su,cu0,cu1,fu0,fu1⟩:=RFz2 ru
   obtain ⟨sv,cv0,cv1⟩:=RF2 rv
   refine wp_region_vals [.agg #[.string (S M.c.num),.string (S (M.c.den:Int)),.slice pm M.t.length cm,.string (S M.r.num),.string (S (M.r.den:Int))],.int .i64 (i:Int),.agg #[.string (S qm.num),.string (S (qm.den:Int))],.agg #[.string (S qm.num),.string (S (qm.den:Int))],.bool false] (by kernel_rfl) (by kernel_rfl) rfl (allVals.cons (qv1 fun X h=>RF5 (Row.below rm h)) (allVals.cons qv0 (allVals.cons (qv2 fun X h=>CM X _ _ (UAt.below hM h)) (allVals.cons (qv1 fun X h=>RF2 (Row.below rv h)) (allVals.cons qv0 trivial))))) ?_
   rintro W h1
   clear sx cx0 cx1 cx2 cx3 cx4 cx5 cx6 cx7
   clear sy cy0 cy1 cy2 cy3 cy4 cy5 cy6 cy7
   clear sa ca0 ca1 ca2 ca3 ca4
   clear sb cb0 cb1 cb2 cb3 cb4
   clear sj cj0 cj1
   clear sm cm0 cm1 cm2 cm3 cm4
   clear sn cn0 cn1 cn2 cn3 cn4 fn0 fn1 fn2 fn3 fn4
   clear si ci0 ci1 ci2 ci3 ci4
   clear st ct0 ct1 ft0 ft1
   clear su cu0 cu1 fu0 fu1
   clear sv cv0 cv1
   replace hB:=hB.trans (h1.mono hB.size)
   replace rx:=Row.below rx h1
   replace ry:=Row.below ry h1
   replace ra:=Row.below ra h1
   replace rb:=Row.below rb h1
   replace rj:=Row.below rj h1
   replace rm:=Row.below rm h1
   replace rn:=Row.below rn h1
   replace ri:=Row.below ri h1
   replace rt:=Row.below rt h1
   replace ru:=Row.below ru h1
   replace rv:=Row.below rv h1
   replace hA:=UAt.below hA h1
   replace hBt:=UAt.below hBt h1
   replace hM:=UAt.below hM h1
   clear h1
   obtain ⟨sx,cx0,cx1,cx2,cx3,cx4,cx5,cx6,cx7⟩:=Fx _ rx
   obtain ⟨sy,cy0,cy1,cy2,cy3,cy4,cy5,cy6,cy7⟩:=Fy _ ry
   obtain ⟨sa,ca0,ca1,ca2,ca3,ca4⟩:=RF5 ra
   obtain ⟨sb,cb0,cb1,cb2,cb3,cb4⟩:=RF5 rb
   obtain ⟨sj,cj0,cj1⟩:=RF2 rj
   obtain ⟨sm,cm0,cm1,cm2,cm3,cm4⟩:=RF5 rm
   obtain ⟨sn,cn0,cn1,cn2,cn3,cn4,fn0,fn1,fn2,fn3,fn4⟩:=RFz5 rn
   obtain ⟨si,ci0,ci1,ci2,ci3,ci4⟩:=RF5 ri
   obtain ⟨st,ct0,ct1,ft0,ft1⟩:=RFz2 rt
   obtain ⟨su,cu0,cu1,fu0,fu1⟩:=RFz2 ru
   obtain ⟨sv,cv0,cv1⟩:=RF2 rv
   simp only [setVals,List.setIfInBounds_toArray,List.set_cons_succ,List.set_cons_zero]
   go_wp2
   go_roundw
   case rel=>exact ⟨i+1,by go_num,by omega,TW,TW,TW,BW,RW8,RW8,RW8,RW8,RW8,RW8,RW8,RW8⟩
   case measure=>simp [intOf];omega
  ·obtain rfl:i=7:=by omega
   obtain ⟨sx,cx0,cx1,cx2,cx3,cx4,cx5,cx6,cx7⟩:=Fx _ rx
   obtain ⟨sy,cy0,cy1,cy2,cy3,cy4,cy5,cy6,cy7⟩:=Fy _ ry
   obtain ⟨sa,ca0,ca1,ca2,ca3,ca4⟩:=RF5 ra
   obtain ⟨sb,cb0,cb1,cb2,cb3,cb4⟩:=RF5 rb
   obtain ⟨sj,cj0,cj1⟩:=RF2 rj
   obtain ⟨sm,cm0,cm1,cm2,cm3,cm4⟩:=RF5 rm
   obtain ⟨sn,cn0,cn1,cn2,cn3,cn4,fn0,fn1,fn2,fn3,fn4⟩:=RFz5 rn
   obtain ⟨si,ci0,ci1,ci2,ci3,ci4⟩:=RF5 ri
   go_wp2_with fail
   refine (CC _ (he.below hB)).mono ?_
   rintro e W16 ⟨rfl,h1⟩
   replace hA:=UAt.below hA h1
   replace hBt:=UAt.below hBt h1
   replace hM:=UAt.below hM h1
   have stp:=St8 hB h1 rx ry ra rb rj rm rn ri;clear hB h1 rx sx cx0 cx1 cx2 cx3 cx4 cx5 cx6 cx7 ry sy cy0 cy1 cy2 cy3 cy4 cy5 cy6 cy7 ra sa ca0 ca1 ca2 ca3 ca4 rb sb cb0 cb1 cb2 cb3 cb4 rj sj cj0 cj1 rm sm cm0 cm1 cm2 cm3 cm4 rn sn cn0 cn1 cn2 cn3 cn4 fn0 fn1 fn2 fn3 fn4 ri si ci0 ci1 ci2 ci3 ci4
   obtain ⟨hB,rx,ry,ra,rb,rj,rm,rn,ri⟩:=stp
   obtain ⟨sx,cx0,cx1,cx2,cx3,cx4,cx5,cx6,cx7⟩:=Fx _ rx
   obtain ⟨sy,cy0,cy1,cy2,cy3,cy4,cy5,cy6,cy7⟩:=Fy _ ry
   obtain ⟨sa,ca0,ca1,ca2,ca3,ca4⟩:=RF5 ra
   obtain ⟨sb,cb0,cb1,cb2,cb3,cb4⟩:=RF5 rb
   obtain ⟨sj,cj0,cj1⟩:=RF2 rj
   obtain ⟨sm,cm0,cm1,cm2,cm3,cm4⟩:=RF5 rm
   obtain ⟨sn,cn0,cn1,cn2,cn3,cn4,fn0,fn1,fn2,fn3,fn4⟩:=RFz5 rn
   obtain ⟨si,ci0,ci1,ci2,ci3,ci4⟩:=RF5 ri
   go_wp2
   go_ret
   exact ⟨rfl,hB.alloc hB.size _⟩
theorem affineProducts {c0 r0 c1 r1 fa:Int} {x y:Nat→Int} (hc0:IsInt c0) (hr0:IsInt r0) (hx:∀ i,i<6→IsInt (x i)) (hc1:IsInt c1) (hr1:IsInt r1) (hy:∀ i,i<6→IsInt (y i)) (hf:IsInt fa) (w:World) (he:Env w) :
  Calls Tryz.prog 3 #[.agg #[.int .i64 c0,.int .i64 r0,.int .i64 (x 0),.int .i64 (x 1),.int .i64 (x 2),.int .i64 (x 3),.int .i64 (x 4),.int .i64 (x 5)],.agg #[.int .i64 c1,.int .i64 r1,.int .i64 (y 0),.int .i64 (y 1),.int .i64 (y 2),.int .i64 (y 3),.int .i64 (y 4),.int .i64 (y 5)],.int .i64 fa] w (BoolOk true w):=by
 have hk0:=pk_nonneg fa (n:=41) (by decide)
 have hk1:=pk_lt fa (n:=41) (by decide)
 have PK:=fun W=>pickL8 fa 41 hf (by decide) W
 generalize pk fa 41=k at *
 have RB:=fun W=>lratio8 (n:=k - 20) (d:=4) ⟨by omega,by omega⟩ (by decide) (by decide) W
 have gby:Gr 4 20 (Rat.divInt (k - 20) 4):=Gr.ofInt (by decide) (by omega)
 generalize Rat.divInt (k - 20) 4=by_ at *
 have MA:=fun W=>lmade8 hc0 hr0 x hx W
 have MB:=fun W=>lmade8 hc1 hr1 y hy W
 have oa:=mForm_ok c0 r0 x
 have ob:=mForm_ok c1 r1 y
 have ga:=mForm_gr c0 r0 x
 have gb:=mForm_gr c1 r1 y
 have la:=mForm_len c0 r0 x
 have lb:=mForm_len c1 r1 y
 generalize mForm c0 r0 x=A at *
 generalize mForm c1 r1 y=B at *
 have da:FDig 9 A:=ga.dig (by decide) (by decide) (by decide)
 have db:FDig 9 B:=gb.dig (by decide) (by decide) (by decide)
 have d0:QDig 9 0:=qd (by decide +kernel)
 have dby:QDig 9 by_:=gby.dig (by decide) (by decide) (by decide)
 have gk:FGr 4 80 (constF by_):=⟨gby.mono (by decide),fun p hp=>(by cases hp),(Gr.zero 4).mono (by decide)⟩
 have ok_:=const_ok by_
 have lm:=Nat.le_trans (lin_ok (p:=B.c) (q:=A.c) oa.src ob.src).len (show A.t.length+B.t.length≤10 by omega)
 have om:(mulF A B).Ok:=mulF_ok oa ob (Nat.le_trans lm (by decide))
 have FM:=MulF.made ga gb oa ob la lb
 have FK:=MulF.made gk ga ok_ oa (show 0≤5 by decide) la
 have CS:CombF by_ 0 A (constF 0):=CombF.of (j:=9) (k:=9) dby d0 da ⟨d0,fun p hp=>(by cases hp),d0⟩ (by decide) (Nat.le_trans (lin_ok oa.src (const_ok 0).src).len (show A.t.length+0≤64 by omega))
 have hmc:=mul_const oa by_
 have lk:=Nat.le_trans (lin_ok (p:=by_) (q:=0) oa.src (const_ok 0).src).len (show A.t.length+0≤5 by omega)
 have lk2:(combF by_ 0 A (constF 0)).t.length≤5:=lk
 have hR:RatioIs 0 1 0:=rat8 (by decide +kernel)
 have dca:∀ id,QDig 9 (cf A.t id):=fun id=>(cf_gr ga.t id).dig (by decide) (by decide) (by decide)
 have dcb:∀ id,QDig 9 (cf B.t id):=fun id=>(cf_gr gb.t id).dig (by decide) (by decide) (by decide)
 have hS1:∀ id,A.c * cf B.t id+B.c * cf A.t id=cf (mulF A B).t id:=fun id=>by
  show _=cf (lin B.c A.c A.t B.t) id
  rw [lin_cf oa.src ob.src];grind
 refine products0 (A:=A) (B:=B) (M:=mulF A B) (N:=combF by_ 0 A (constF 0)) (by_:=by_) (z:=0) (fA:=cf A.t) (fB:=cf B.t) (fM:=cf (mulF A B).t) (fp:=fun id=>A.c * cf B.t id) (fq:=fun id=>B.c * cf A.t id) hk0 hk1 sane8 MA MB PK RB ?_ ?_ ?_ ?_ ?_ ?_ ?_ ?_ ?_ ?_ ?_ ?_ w he
 ·intro W p c q d h1 h2 H;exact amul FM oa ob (da.mono (by decide)) (db.mono (by decide)) p c q d W h1 h2 H
 ·intro W H;exact s_K by_ dby W H
 ·intro W p c h1 H;rw [← hmc];exact amul FK ok_ oa ((gk.dig (by decide) (by decide) (by decide):FDig 9 _).mono (by decide)) (da.mono (by decide)) none 0 p c W (TAt.nil _ _) h1 H
 ·intro W p c h1 H;exact ascale CS oa (da.mono (by decide)) p c W h1 H
 ·intro W p c q d h1 h2;exact asame (by omega) p q c d W h1 h2
 ·intro W p c id h1;exact lcoeff oa.src (by omega) rfl hR id p c W h1
 ·intro W p c id h1;exact lcoeff ob.src (by omega) rfl hR id p c W h1
 ·intro W p c id h1;exact lcoeff om.src (by have:=om.few;omega) rfl hR id p c W h1
 ·intro W id H;exact qmul da.c (dcb id) (by decide) W H
 ·intro W id H;exact qmul db.c (dca id) (by decide) W H
 ·intro W id H;rw [← hS1];exact qadd (j:=18) (k:=18) (da.c.mul (dcb id)) (db.c.mul (dca id)) (by decide) W H
 ·intro W H;exact qmul da.c db.c (by decide) W H
end Go.Proofs.YtjpkfjmmmmfeeaaGreatDoor
