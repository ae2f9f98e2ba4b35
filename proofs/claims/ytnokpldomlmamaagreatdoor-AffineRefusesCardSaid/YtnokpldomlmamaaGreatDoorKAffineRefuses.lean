/-
 AffineRefuses: the law's walk.
-/
import Derived.Test.YtnokpldomlmamaaGreatDoorKARefB
import Derived.Test.YtnokpldomlmamaaGreatDoorKAFits
import Derived.Test.YtnokpldomlmamaaGreatDoorKExtraR
set_option linter.unusedSimpArgs false
set_option linter.unusedVariables false
set_option maxRecDepth 100000
set_option maxHeartbeats 16000000
namespace Go.Proofs.YtnokpldomlmamaaGreatDoor
open Go Go.RowKit Go.Lib Go.Shelf
attribute [local go_sem] normalQ
def FnIs (A:Frm) (n:Nat) (w:World) (e:Ending) (w':World):Prop:=∃ p c,TAt 62 w' p A.t∧e = .returned (.agg #[.string (S A.c.num),.string (S (A.c.den:Int)),.slice p n c,.string (S A.r.num),.string (S (A.r.den:Int))])∧Below w.heap.size w w'
theorem refuses0 {a0 a1:Addr} {A:Frm} {S6:List RT} {LI:Nat→List RT} {q5 q0 q1 q54 q14 q12:Rat} {n:Nat} {k n2:Int} {bb:Bool} {c0 r0 fa nn:Int} {x:Nat→Int} (hn:A.t.length=n) (hn6:n≤6) (hS6:S6.length=6) (hk0:0≤k) (hk7:k<7) (hbb:bb=decide (1≤nn∧nn≤1000000)) (htt:bb=true→IntKind.i64.wrap (-nn)=n2) (hff:bb=false→nn=n2) (hl0:LI 0=[]) (hls:∀ i,i<65→LI (i+1)=LI i ++ [⟨1+(i:Int),S q1.num,S (q1.den:Int)⟩]) (Rq5:RatioIs (-1) 5 q5) (Rq0:RatioIs 0 1 q0) (Rq1:RatioIs 1 1 q1) (Rq54:RatioIs 5 4 q54) (Rq14:RatioIs 1 4 q14) (Rq12:RatioIs 1 2 q12) (SO:∀ (n0:Nat) (W:World),n0≤W.heap.size→Calls Tryz.prog 33 #[.agg #[.int .i64 0,.int .i64 0,.int .i64 0,.int .i64 0,.int .i64 0,.int .i64 0]] W fun e w'=>∃ v,e = .returned v∧SayOwnS n0 6 S6 v w'∧Below W.heap.size W w') (N0:NotOkL (S A.c.num) (S (A.c.den:Int)) (raws A.t) n (S q5.num) (S (q5.den:Int))) (N1:NotOkL ⟨#[50]⟩ ⟨#[50]⟩ (raws A.t) n (S A.r.num) (S (A.r.den:Int))) (N2:NotOkL (S A.c.num) (S (A.c.den:Int)) (raws A.t ++ [⟨9,S q0.num,S (q0.den:Int)⟩]) (n+1) (S A.r.num) (S (A.r.den:Int))) (N3:NotOkL (S A.c.num) (S (A.c.den:Int)) (raws A.t ++ [⟨9,S q1.num,S (q1.den:Int)⟩,⟨9,S q1.num,S (q1.den:Int)⟩]) (n+2) (S A.r.num) (S (A.r.den:Int))) (N4:NotOkL (S A.c.num) (S (A.c.den:Int)) [⟨n2,S q1.num,S (q1.den:Int)⟩] 1 (S A.r.num) (S (A.r.den:Int))) (N5:NotOkL (S A.c.num) (S (A.c.den:Int)) (LI 65) 65 (S A.r.num) (S (A.r.den:Int))) (N6:NotOkL (S A.c.num) (S (A.c.den:Int)) (raws A.t ++ [⟨9,⟨#[]⟩,⟨#[]⟩⟩]) (n+1) (S A.r.num) (S (A.r.den:Int))) (SE:∀ (W:World),Env W→Calls Tryz.prog 24 #[] W (BoolOk true W)) (MA:∀ (W:World),Calls Tryz.prog 25 #[.agg #[.int .i64 c0,.int .i64 r0,.int .i64 (x 0),.int .i64 (x 1),.int .i64 (x 2),.int .i64 (x 3),.int .i64 (x 4),.int .i64 (x 5)]] W (FnIs A n W)) (PK:∀ (W:World),Calls Tryz.prog 27 #[.int .i64 fa,.int .i64 7] W (IntIs k W)) (AD:∀ (W:World) (p:Option Addr) (c:Nat) (b1 b2 b3 b4:ByteArray) (q:Option Addr) (m d:Nat),TAt 62 W p A.t→EnvA a0 a1 W→(∀ Y,Below W.heap.size W Y→Calls Tryz.prog 34 #[.agg #[.string b1,.string b2,.slice q m d,.string b3,.string b4]] Y (BoolOk false Y))→Calls Tryz.prog 28 #[.agg #[.string (S A.c.num),.string (S (A.c.den:Int)),.slice p n c,.string (S A.r.num),.string (S (A.r.den:Int))],.agg #[.string b1,.string b2,.slice q m d,.string b3,.string b4]] W (afErr W)) (ML:∀ (W:World) (p:Option Addr) (c:Nat) (b1 b2 b3 b4:ByteArray) (q:Option Addr) (m d:Nat),TAt 62 W p A.t→EnvA a0 a1 W→(∀ Y,Below W.heap.size W Y→Calls Tryz.prog 34 #[.agg #[.string b1,.string b2,.slice q m d,.string b3,.string b4]] Y (BoolOk false Y))→Calls Tryz.prog 29 #[.agg #[.string b1,.string b2,.slice q m d,.string b3,.string b4],.agg #[.string (S A.c.num),.string (S (A.c.den:Int)),.slice p n c,.string (S A.r.num),.string (S (A.r.den:Int))]] W (afErr W)) (RG:∀ (W:World) (b1 b2 b3 b4:ByteArray) (q:Option Addr) (m d:Nat),EnvA a0 a1 W→(∀ Y,Below W.heap.size W Y→Calls Tryz.prog 34 #[.agg #[.string b1,.string b2,.slice q m d,.string b3,.string b4]] Y (BoolOk false Y))→Calls Tryz.prog 30 #[.agg #[.string b1,.string b2,.slice q m d,.string b3,.string b4]] W (avErr W)) (H4:∀ (W:World) (p:Option Addr) (c:Nat) (g:Nat),TAt 62 W p A.t→Row W g (.cells #[.int .i64 1,.string (S q54.num),.string (S (q54.den:Int))] 62)→EnvA a0 a1 W→Calls Tryz.prog 31 #[.agg #[.string (S A.c.num),.string (S (A.c.den:Int)),.slice p n c,.string (S A.r.num),.string (S (A.r.den:Int))],.slice (some ⟨g,0,none⟩) 1 1] W (avErr W)) (H5:∀ (W:World) (p:Option Addr) (c:Nat) (g:Nat),TAt 62 W p A.t→Row W g (.cells #[.int .i64 n2,.string (S q14.num),.string (S (q14.den:Int))] 62)→EnvA a0 a1 W→Calls Tryz.prog 31 #[.agg #[.string (S A.c.num),.string (S (A.c.den:Int)),.slice p n c,.string (S A.r.num),.string (S (A.r.den:Int))],.slice (some ⟨g,0,none⟩) 1 1] W (avErr W)) (H6:∀ (W:World) (p:Option Addr) (c:Nat) (g:Nat),TAt 62 W p A.t→Row W g (.cells #[.int .i64 n2,.string (S q12.num),.string (S (q12.den:Int))] 70)→EnvA a0 a1 W→Calls Tryz.prog 32 #[.agg #[.string (S A.c.num),.string (S (A.c.den:Int)),.slice p n c,.string (S A.r.num),.string (S (A.r.den:Int))],.agg #[.string (S A.c.num),.string (S (A.c.den:Int)),.slice p n c,.string (S A.r.num),.string (S (A.r.den:Int))],.slice (some ⟨g,0,none⟩) 1 1] W (arErr W)) (H7:∀ (W:World) (p:Option Addr) (c:Nat) (q:Option Addr) (d:Nat),TAt 62 W p A.t→UAt 70 W q (S6 ++ [⟨7,S q54.num,S (q54.den:Int)⟩])→EnvA a0 a1 W→Calls Tryz.prog 32 #[.agg #[.string (S A.c.num),.string (S (A.c.den:Int)),.slice p n c,.string (S A.r.num),.string (S (A.r.den:Int))],.agg #[.string (S A.c.num),.string (S (A.c.den:Int)),.slice p n c,.string (S A.r.num),.string (S (A.r.den:Int))],.slice q 7 d] W (arErr W)) (w:World) (he:EnvA a0 a1 w):Calls Tryz.prog 4 #[.agg #[.int .i64 c0,.int .i64 r0,.int .i64 (x 0),.int .i64 (x 1),.int .i64 (x 2),.int .i64 (x 3),.int .i64 (x 4),.int .i64 (x 5)],.int .i64 fa,.int .i64 nn] w (BoolOk true w):=by
 have hB:Below w.heap.size w w:=Below.refl _ _
 unfold RatioIs QIs Q at Rq5 Rq0 Rq1 Rq54 Rq14 Rq12
 unfold BoolOk at SE
 unfold FnIs at MA
 unfold IntIs at PK
 unfold afErr at AD ML
 unfold avErr at RG H4 H5
 unfold arErr at H6 H7
 have HN:=Lib.hid hn
 have hn9:(raws A.t).length=n:=by rw [raws_length];exact hn
 have hn1:n≤100000:=by omega
 have HT:=Lib.hid htt
 have HF:=Lib.hid hff
 have HBB:=Lib.hid hbb
 have HL0:=Lib.hid hl0
 have HLS:=Lib.hid hls
 clear hn htt hff hbb hl0 hls
 go_enter Tryz.func4, Tryz.ntmps4
 go_wp2_with fail
 have sB:=hB.size
 refine world_cut (fun X=>Below w.heap.size w X∧Row X w.heap.size (.cells #[.int .i64 c0,.int .i64 r0,.int .i64 (x 0),.int .i64 (x 1),.int .i64 (x 2),.int .i64 (x 3),.int .i64 (x 4),.int .i64 (x 5)] 55)) ⟨BW,RW8⟩ ?_
 clear hB sB
 rintro V1 ⟨hB,rx⟩
 have Fx:∀ X,Row X w.heap.size (.cells #[.int .i64 c0,.int .i64 r0,.int .i64 (x 0),.int .i64 (x 1),.int .i64 (x 2),.int .i64 (x 3),.int .i64 (x 4),.int .i64 (x 5)] 55)→(w.heap.size<X.heap.size∧X.cell? ⟨w.heap.size,0,none⟩=some (.int .i64 c0)∧X.cell? ⟨w.heap.size,1,none⟩=some (.int .i64 r0)∧X.cell? ⟨w.heap.size,2,none⟩=some (.int .i64 (x 0))∧X.cell? ⟨w.heap.size,3,none⟩=some (.int .i64 (x 1))∧X.cell? ⟨w.heap.size,4,none⟩=some (.int .i64 (x 2))∧X.cell? ⟨w.heap.size,5,none⟩=some (.int .i64 (x 3))∧X.cell? ⟨w.heap.size,6,none⟩=some (.int .i64 (x 4))∧X.cell? ⟨w.heap.size,7,none⟩=some (.int .i64 (x 5))):=fun X h=>⟨h.1,Row.cell_at h 0 rfl,Row.cell_at h 1 rfl,Row.cell_at h 2 rfl,Row.cell_at h 3 rfl,Row.cell_at h 4 rfl,Row.cell_at h 5 rfl,Row.cell_at h 6 rfl,Row.cell_at h 7 rfl⟩
 obtain ⟨sx,cx0,cx1,cx2,cx3,cx4,cx5,cx6,cx7⟩:=Fx _ rx
 refine (SE _ (he.env.below hB)).mono ?_
 rintro e W2 ⟨rfl,h1⟩
 have stp:=St1 hB h1 rx;clear hB h1 rx sx cx0 cx1 cx2 cx3 cx4 cx5 cx6 cx7
 obtain ⟨hB,rx⟩:=stp
 obtain ⟨sx,cx0,cx1,cx2,cx3,cx4,cx5,cx6,cx7⟩:=Fx _ rx
 go_wp2_with fail
 clear rx
 clear sx cx0 cx1 cx2 cx3 cx4 cx5 cx6 cx7
 clear Fx
 refine (MA _).mono ?_
 rintro e W3 ⟨pA,cA,hA,rfl,h1⟩
 have stp:=St0 hB h1;clear hB h1
 have hB:=stp;clear stp
 go_upto_region 4 with fail
 have d0_b:w.heap.size≤W3.heap.size+1:=by have:=hB.size;omega
 have sB:=hB.size
 refine wp_cut (fun X=>Below w.heap.size w X∧Row X W3.heap.size (.cells #[.string (S A.c.num),.string (S (A.c.den:Int)),.slice pA n cA,.string (S A.r.num),.string (S (A.r.den:Int))] 58)∧Row X (W3.heap.size+1) (.cells #[.string (S A.c.num),.string (S (A.c.den:Int)),.slice pA n cA,.string (S A.r.num),.string (S (A.r.den:Int))] 58)∧TAt 62 X pA A.t) ⟨BW,RW8,RW8,TW⟩ ?_
 clear hB sB hA
 rintro V4 ⟨hB,ra,rb,hA⟩
 obtain ⟨sa,ca0,ca1,ca2,ca3,ca4⟩:=RF5 ra
 obtain ⟨sb,cb0,cb1,cb2,cb3,cb4,fb0,fb1,fb2,fb3,fb4⟩:=RFz5 rb
 have l_a:=ra.1
 have l_b:=rb.1
 obtain ⟨n0,hn0e⟩:∃ z,z=V4.heap.size:=⟨_,rfl⟩
 rw [← hn0e] at l_a l_b
 have hn0:n0≤V4.heap.size:=by omega
 have hwn0:w.heap.size≤n0:=by have:=hB.size;omega
 have HPL:∀ g,pA=some ⟨g,0,none⟩→0<(raws A.t).length→g<n0:=fun g e h0=>(by subst e;have:=tat_lt hA h0;omega)
 have hO:=OU.empty (W:=V4.alloc (.cells #[] 62)) (n0:=n0) (g:=V4.heap.size) hn0 (row_new _ _)
 clear hn0e
 clear sa ca0 ca1 ca2 ca3 ca4
 clear sb cb0 cb1 cb2 cb3 cb4 fb0 fb1 fb2 fb3 fb4
 obtain ⟨sa,ca0,ca1,ca2,ca3,ca4⟩:=RF5 ra
 go_upto_region 5 with (at_builtin;refine wpl_append_raw rfl (.tmp 30) (.tmp 32) rfl n0 (some ⟨V4.heap.size,0,none⟩) 0 0 [] rfl hO pA n cA (raws A.t) rfl hn9 (UAt.alloc hA _) n (Nat.zero_add _) (Nat.zero_le _) hn1 (by simp;omega) ?_;intro pe ce Y1 own9 hg9;replace ra:=own_row_ne hO hg9 (Row.alloc ra _) l_a;replace rb:=own_row_ne hO hg9 (Row.alloc rb _) l_b;replace hA:=uat_grown (UAt.alloc hA _) HPL hO hg9;replace hB:=Below.grown (hB.alloc hB.size _) hg9 (by simp;have:=hB.size;omega) (fun k hk=>by have:=(World.ownsRow.lt hO k hk).1;omega);have hn0:n0≤_:=Nat.le_trans (by simp;omega) hg9.size;clear hg9 hO;have hO:OU Y1 n0 pe n ce (raws A.t):=own9;clear own9;(try clear sa ca0 ca1 ca2 ca3 ca4);obtain ⟨sb,cb0,cb1,cb2,cb3,cb4,fb0,fb1,fb2,fb3,fb4⟩:=RFz5 rb)
 obtain ⟨sa,ca0,ca1,ca2,ca3,ca4⟩:=RF5 ra
 go_wp2_with fail
 have sB:=hB.size
 refine world_cut (fun X=>Below w.heap.size w X∧Row X W3.heap.size (.cells #[.string (S A.c.num),.string (S (A.c.den:Int)),.slice pA n cA,.string (S A.r.num),.string (S (A.r.den:Int))] 58)∧Row X (W3.heap.size+1) (.cells #[.string (S A.c.num),.string (S (A.c.den:Int)),.slice pe n ce,.string (S A.r.num),.string (S (A.r.den:Int))] 58)∧TAt 62 X pA A.t∧OU X n0 pe n ce (raws A.t)∧n0≤X.heap.size) ⟨BW,RW8,RW8,TW,OW,(by first | omega | (simp;done) | (simp;omega))⟩ ?_
 clear ra
 clear sa ca0 ca1 ca2 ca3 ca4
 clear rb
 clear sb cb0 cb1 cb2 cb3 cb4 fb0 fb1 fb2 fb3 fb4
 clear hB sB hA hO hn0
 rintro V5 ⟨hB,ra,rb,hA,hO,hn0⟩
 obtain ⟨sa,ca0,ca1,ca2,ca3,ca4⟩:=RF5 ra
 obtain ⟨sb,cb0,cb1,cb2,cb3,cb4,fb0,fb1,fb2,fb3,fb4⟩:=RFz5 rb
 refine (Rq1 _).mono ?_
 rintro e W6 ⟨rfl,h1⟩
 replace hA:=UAt.below hA h1
 replace hO:=OU.later hO h1
 replace hn0:=le_below hn0 h1
 have stp:=St2 hB h1 ra rb;clear hB h1 ra sa ca0 ca1 ca2 ca3 ca4 rb sb cb0 cb1 cb2 cb3 cb4 fb0 fb1 fb2 fb3 fb4
 obtain ⟨hB,ra,rb⟩:=stp
 obtain ⟨sa,ca0,ca1,ca2,ca3,ca4⟩:=RF5 ra
 obtain ⟨sb,cb0,cb1,cb2,cb3,cb4,fb0,fb1,fb2,fb3,fb4⟩:=RFz5 rb
 go_upto_region 6 with fail
 have db_o:W3.heap.size+1<W6.heap.size:=by omega
 have sB:=hB.size
 refine wp_cut (fun X=>Below w.heap.size w X∧Row X W3.heap.size (.cells #[.string (S A.c.num),.string (S (A.c.den:Int)),.slice pA n cA,.string (S A.r.num),.string (S (A.r.den:Int))] 58)∧Row X (W3.heap.size+1) (.cells #[.string (S A.c.num),.string (S (A.c.den:Int)),.slice pe n ce,.string (S A.r.num),.string (S (A.r.den:Int))] 58)∧Row X W6.heap.size (.cells #[.int .i64 9,.string (S q1.num),.string (S (q1.den:Int))] 62)∧TAt 62 X pA A.t∧OU X n0 pe n ce (raws A.t)∧n0≤X.heap.size) ⟨BW,RW8,RW8,RW8,TW,OW,(by first | omega | (simp;done) | (simp;omega))⟩ ?_
 clear ra
 clear sa ca0 ca1 ca2 ca3 ca4
 clear rb
 clear sb cb0 cb1 cb2 cb3 cb4 fb0 fb1 fb2 fb3 fb4
 clear hB sB hA hO hn0
 rintro V7 ⟨hB,ra,rb,ro,hA,hO,hn0⟩
 obtain ⟨sa,ca0,ca1,ca2,ca3,ca4⟩:=RF5 ra
 obtain ⟨sb,cb0,cb1,cb2,cb3,cb4,fb0,fb1,fb2,fb3,fb4⟩:=RFz5 rb
 obtain ⟨so,co0,co1,co2⟩:=RF3 ro
 go_cut [42] (fun s42 W=>s42 = .bool bb∧Below w.heap.size w W∧Row W W3.heap.size (.cells #[.string (S A.c.num),.string (S (A.c.den:Int)),.slice pA n cA,.string (S A.r.num),.string (S (A.r.den:Int))] 58)∧Row W (W3.heap.size+1) (.cells #[.string (S A.c.num),.string (S (A.c.den:Int)),.slice pe n ce,.string (S A.r.num),.string (S (A.r.den:Int))] 58)∧Row W W6.heap.size (.cells #[.int .i64 9,.string (S q1.num),.string (S (q1.den:Int))] 62)∧TAt 62 W pA A.t∧OU W n0 pe n ce (raws A.t)∧n0≤W.heap.size)
 case first =>
  rcases Int.lt_or_le nn 1 with h1 | h1
  ·have h2:¬ 1≤nn:=by omega
   have hv:bb=false:=by rw [HBB.out];exact decide_eq_false (by omega)
   have HV:=Lib.hid hv
   clear hv
   go_wp2
   go_meet
   case rel=>exact ⟨(by first | (rw [HV.out];done) | (rw [HV.out];exact congrArg Value.bool (decide_eq_false (by omega))) | (rw [HV.out];exact congrArg Value.bool (decide_eq_true (by omega)))),BW,RW8,RW8,RW8,TW,OW,(by first | omega | (simp;done) | (simp;omega))⟩
  ·rcases Int.lt_or_le 1000000 nn with h3 | h3
   ·have hv:bb=false:=by rw [HBB.out];exact decide_eq_false (by omega)
    have HV:=Lib.hid hv
    clear hv
    go_wp2
    go_meet
    case rel=>exact ⟨(by first | (rw [HV.out];done) | (rw [HV.out];exact congrArg Value.bool (decide_eq_false (by omega))) | (rw [HV.out];exact congrArg Value.bool (decide_eq_true (by omega)))),BW,RW8,RW8,RW8,TW,OW,(by first | omega | (simp;done) | (simp;omega))⟩
   ·have hv:bb=true:=by rw [HBB.out];exact decide_eq_true (by omega)
    have HV:=Lib.hid hv
    clear hv
    go_wp2
    go_meet
    case rel=>exact ⟨(by first | (rw [HV.out];done) | (rw [HV.out];exact congrArg Value.bool (decide_eq_false (by omega))) | (rw [HV.out];exact congrArg Value.bool (decide_eq_true (by omega)))),BW,RW8,RW8,RW8,TW,OW,(by first | omega | (simp;done) | (simp;omega))⟩
 case rest =>
  clear hB ra rb ro hA hO hn0
  clear sa ca0 ca1 ca2 ca3 ca4
  clear sb cb0 cb1 cb2 cb3 cb4 fb0 fb1 fb2 fb3 fb4
  clear so co0 co1 co2
  obtain ⟨rfl,hB,ra,rb,ro,hA,hO,hn0⟩:=hcut
  have sB:=hB.size
  clear sB
  obtain ⟨sa,ca0,ca1,ca2,ca3,ca4⟩:=RF5 ra
  obtain ⟨sb,cb0,cb1,cb2,cb3,cb4,fb0,fb1,fb2,fb3,fb4⟩:=RFz5 rb
  obtain ⟨so,co0,co1,co2⟩:=RF3 ro
  go_upto_if 42 with fail
  go_cut [2] (fun s2 W=>s2 = .int .i64 n2∧Below w.heap.size w W∧Row W W3.heap.size (.cells #[.string (S A.c.num),.string (S (A.c.den:Int)),.slice pA n cA,.string (S A.r.num),.string (S (A.r.den:Int))] 58)∧Row W (W3.heap.size+1) (.cells #[.string (S A.c.num),.string (S (A.c.den:Int)),.slice pe n ce,.string (S A.r.num),.string (S (A.r.den:Int))] 58)∧Row W W6.heap.size (.cells #[.int .i64 9,.string (S q1.num),.string (S (q1.den:Int))] 62)∧TAt 62 W pA A.t∧OU W n0 pe n ce (raws A.t)∧n0≤W.heap.size)
  case first =>
   rcases hbv:bb with _ | _
   ·have hv:=HF.out hbv
    go_wp2
    go_meet
    case rel=>exact ⟨(by first | rw [hv] | (simp only [hv]) | rfl),BW,RW8,RW8,RW8,TW,OW,(by first | omega | (simp;done) | (simp;omega))⟩
   ·have hv:=HT.out hbv
    go_wp2
    go_meet
    case rel=>exact ⟨(by first | rw [hv] | (simp only [hv]) | rfl),BW,RW8,RW8,RW8,TW,OW,(by first | omega | (simp;done) | (simp;omega))⟩
  case rest =>
   clear hB ra rb ro hA hO hn0
   clear sa ca0 ca1 ca2 ca3 ca4
   clear sb cb0 cb1 cb2 cb3 cb4 fb0 fb1 fb2 fb3 fb4
   clear so co0 co1 co2
   obtain ⟨rfl,hB,ra,rb,ro,hA,hO,hn0⟩:=hcut
   obtain ⟨sa,ca0,ca1,ca2,ca3,ca4⟩:=RF5 ra
   obtain ⟨sb,cb0,cb1,cb2,cb3,cb4,fb0,fb1,fb2,fb3,fb4⟩:=RFz5 rb
   obtain ⟨so,co0,co1,co2⟩:=RF3 ro
   go_wp2_with fail
   refine (PK _).mono ?_
   rintro e W9 ⟨rfl,h1⟩
   replace hA:=UAt.below hA h1
   replace hO:=OU.later hO h1
   replace hn0:=le_below hn0 h1
   have stp:=St3 hB h1 ra rb ro;clear hB h1 ra sa ca0 ca1 ca2 ca3 ca4 rb sb cb0 cb1 cb2 cb3 cb4 fb0 fb1 fb2 fb3 fb4 ro so co0 co1 co2
   obtain ⟨hB,ra,rb,ro⟩:=stp
   obtain ⟨sa,ca0,ca1,ca2,ca3,ca4⟩:=RF5 ra
   obtain ⟨sb,cb0,cb1,cb2,cb3,cb4,fb0,fb1,fb2,fb3,fb4⟩:=RFz5 rb
   obtain ⟨so,co0,co1,co2⟩:=RF3 ro
   go_upto_block 0 with fail
   go_cut [] (fun W=>∃ (b1 b2 b3 b4:ByteArray) (L:List RT) (m cb:Nat) (pb:Option Addr),NotOkL b1 b2 L m b3 b4∧UAt 62 W pb L∧TAt 62 W pA A.t∧Below w.heap.size w W∧Row W W3.heap.size (.cells #[.string (S A.c.num),.string (S (A.c.den:Int)),.slice pA n cA,.string (S A.r.num),.string (S (A.r.den:Int))] 58)∧Row W (W3.heap.size+1) (.cells #[.string b1,.string b2,.slice pb m cb,.string b3,.string b4] 58))
   case first =>
    rcases (show k=0∨k=1∨k=2∨k=3∨k=4∨k=5∨k=6 by omega) with rfl | rfl | rfl | rfl | rfl | rfl | rfl
    ·have hU:=own_uat hO hn9
     clear hO hn0
     go_wp2_with fail
     clear ro
     clear so co0 co1 co2
     refine (Rq5 _).mono ?_
     rintro e W10 ⟨rfl,h1⟩
     replace hA:=UAt.below hA h1
     replace hU:=UAt.below hU h1
     have stp:=St2 hB h1 ra rb;clear hB h1 ra sa ca0 ca1 ca2 ca3 ca4 rb sb cb0 cb1 cb2 cb3 cb4 fb0 fb1 fb2 fb3 fb4
     obtain ⟨hB,ra,rb⟩:=stp
     obtain ⟨sa,ca0,ca1,ca2,ca3,ca4⟩:=RF5 ra
     obtain ⟨sb,cb0,cb1,cb2,cb3,cb4,fb0,fb1,fb2,fb3,fb4⟩:=RFz5 rb
     go_wp2
     go_meet
     case rel=>exact ⟨_,_,_,_,_,_,_,_,N0,TW,TW,BW,RW8,RW8⟩
    ·have hU:=own_uat hO hn9
     clear hO hn0
     go_wp2
     go_meet
     case rel=>exact ⟨_,_,_,_,_,_,_,_,N1,TW,TW,BW,RW8,RW8⟩
    ·go_wp2_with fail
     clear ro
     clear so co0 co1 co2
     refine wp_region_items3 5 [.val (.pointer (some ⟨W3.heap.size+1,2,none⟩)),.val (.slice pe n ce),.val (.agg #[.string (S q0.num),.string (S (q0.den:Int))]),.val (.agg #[.int .i64 9,.string (S q0.num),.string (S (q0.den:Int))]),.say (SayNew 1 62 #[.int .i64 9,.string (S q0.num),.string (S (q0.den:Int))])] [] (by kernel_rfl) (by kernel_rfl) rfl ⟨SayNew.mono _ _ _,trivial⟩ (allItems.cons qi0 (allItems.cons (qi1 fun X h=>RFz5 (Row.below rb h)) (allItems.cons (qi2 fun X h=>Rq0 X) (allItems.cons qi0 (allItems.cons qin trivial))))) ?_
     rintro W h1
     replace hA:=UAt.below hA h1
     replace hO:=OU.later hO h1
     replace hn0:=le_below hn0 h1
     have stp:=St2 hB h1 ra rb;clear hB h1 ra sa ca0 ca1 ca2 ca3 ca4 rb sb cb0 cb1 cb2 cb3 cb4 fb0 fb1 fb2 fb3 fb4
     obtain ⟨hB,ra,rb⟩:=stp
     obtain ⟨sa,ca0,ca1,ca2,ca3,ca4⟩:=RF5 ra
     obtain ⟨sb,cb0,cb1,cb2,cb3,cb4,fb0,fb1,fb2,fb3,fb4⟩:=RFz5 rb
     simp only [setItems,List.setIfInBounds_toArray,List.set_cons_succ,List.set_cons_zero,List.take_succ_cons,List.take_zero,List.drop_succ_cons,List.drop_zero]
     rintro _ ⟨gb,rfl,rgb⟩
     intro _
     go_wp2_with (at_builtin;refine wpl_append_raw rfl (.tmp 65) (.tmp 68) rfl n0 pe n ce (raws A.t) rfl hO (some ⟨gb,0,none⟩) 1 1 [⟨9,S q0.num,S (q0.den:Int)⟩] rfl rfl (uat_new1 rgb) (n+1) rfl hn1 (by omega) hn0 ?_;intro p9 c9 Y9 own9 hg9;replace ra:=own_row_ne hO hg9 ra l_a;replace rb:=own_row_ne hO hg9 rb l_b;replace hA:=uat_grown hA HPL hO hg9;replace hB:=Below.grown hB hg9 hB.size (fun k hk=>by have:=(World.ownsRow.lt hO k hk).1;omega);have hn0:n0≤_:=Nat.le_trans hn0 hg9.size;clear hg9;(try clear sa ca0 ca1 ca2 ca3 ca4 sb cb0 cb1 cb2 cb3 cb4 fb0 fb1 fb2 fb3 fb4);have hU:=own_uat own9 N2.1;clear own9 hO;obtain ⟨sb,cb0,cb1,cb2,cb3,cb4,fb0,fb1,fb2,fb3,fb4⟩:=RFz5 rb)
     go_meet
     case rel=>exact ⟨_,_,_,_,_,_,_,_,N2,TW,TW,BW,RW8,RW8⟩
    ·go_upto_region 17 with fail
     go_wp2_with (at_builtin;refine wpl_append_raw rfl (.tmp 74) (.tmp 77) rfl n0 pe n ce (raws A.t) rfl (World.ownsRow.alloc hO _) (some ⟨W9.heap.size,0,none⟩) 2 2 [⟨9,S q1.num,S (q1.den:Int)⟩,⟨9,S q1.num,S (q1.den:Int)⟩] rfl rfl (uat_new2 (row_new _ _)) (n+2) rfl hn1 (by omega) (by simp;omega) ?_;intro p9 c9 Y9 own9 hg9;replace ra:=own_row_ne (World.ownsRow.alloc hO _) hg9 (Row.alloc ra _) l_a;replace rb:=own_row_ne (World.ownsRow.alloc hO _) hg9 (Row.alloc rb _) l_b;replace hA:=uat_grown (UAt.alloc hA _) HPL (World.ownsRow.alloc hO _) hg9;replace hB:=Below.grown (hB.alloc hB.size _) hg9 (by simp;have:=hB.size;omega) (fun k hk=>by have:=(World.ownsRow.lt hO k hk).1;omega);have hn0:n0≤_:=Nat.le_trans (by simp;omega) hg9.size;clear hg9;(try clear sa ca0 ca1 ca2 ca3 ca4 sb cb0 cb1 cb2 cb3 cb4 fb0 fb1 fb2 fb3 fb4 so co0 co1 co2);have hU:=own_uat own9 N3.1;clear own9 hO;obtain ⟨sb,cb0,cb1,cb2,cb3,cb4,fb0,fb1,fb2,fb3,fb4⟩:=RFz5 rb)
     go_meet
     case rel=>exact ⟨_,_,_,_,_,_,_,_,N3,TW,TW,BW,RW8,RW8⟩
    ·clear hO hn0
     go_wp2_with fail
     clear ro
     clear so co0 co1 co2
     refine (Rq1 _).mono ?_
     rintro e W10 ⟨rfl,h1⟩
     replace hA:=UAt.below hA h1
     have stp:=St2 hB h1 ra rb;clear hB h1 ra sa ca0 ca1 ca2 ca3 ca4 rb sb cb0 cb1 cb2 cb3 cb4 fb0 fb1 fb2 fb3 fb4
     obtain ⟨hB,ra,rb⟩:=stp
     obtain ⟨sa,ca0,ca1,ca2,ca3,ca4⟩:=RF5 ra
     obtain ⟨sb,cb0,cb1,cb2,cb3,cb4,fb0,fb1,fb2,fb3,fb4⟩:=RFz5 rb
     go_wp2
     go_meet
     case rel=>exact ⟨_,_,_,_,_,_,_,_,N4,uat_new1 (g:=W10.heap.size) RW8,TW,BW,RW8,RW8⟩
    ·go_wp2_with fail
     clear hO
     have sB:=hB.size
     refine wp_cut (fun X=>Below w.heap.size w X∧Row X W3.heap.size (.cells #[.string (S A.c.num),.string (S (A.c.den:Int)),.slice pA n cA,.string (S A.r.num),.string (S (A.r.den:Int))] 58)∧Row X (W3.heap.size+1) (.cells #[.string (S A.c.num),.string (S (A.c.den:Int)),.slice none 0 0,.string (S A.r.num),.string (S (A.r.den:Int))] 58)∧TAt 62 X pA A.t∧n0≤X.heap.size) ⟨BW,RW8,RW8,TW,(by first | omega | (simp;done) | (simp;omega))⟩ ?_
     clear ra
     clear sa ca0 ca1 ca2 ca3 ca4
     clear rb
     clear sb cb0 cb1 cb2 cb3 cb4 fb0 fb1 fb2 fb3 fb4
     clear ro
     clear so co0 co1 co2
     clear hB sB hA hn0
     rintro V10 ⟨hB,ra,rb,hA,hn0⟩
     obtain ⟨sa,ca0,ca1,ca2,ca3,ca4⟩:=RF5 ra
     obtain ⟨sb,cb0,cb1,cb2,cb3,cb4,fb0,fb1,fb2,fb3,fb4⟩:=RFz5 rb
     go_loopw [11] (fun v11 wr=>∃ (i c:Nat) (p:Option Addr),v11 = .int .i64 (i:Int)∧i≤65∧OU wr n0 p i c (LI i)∧TAt 62 wr pA A.t∧n0≤wr.heap.size∧Below w.heap.size w wr∧Row wr W3.heap.size (.cells #[.string (S A.c.num),.string (S (A.c.den:Int)),.slice pA n cA,.string (S A.r.num),.string (S (A.r.den:Int))] 58)∧Row wr (W3.heap.size+1) (.cells #[.string (S A.c.num),.string (S (A.c.den:Int)),.slice p i c,.string (S A.r.num),.string (S (A.r.den:Int))] 58)) (fun v11 _=>(65 - RowKit.intOf v11).toNat)
     case atStart=>exact ⟨0,0,none,rfl,by omega,(by rw [HL0.out];exact OU.nil _ _),hA,hn0,hB,ra,rb⟩
     case round =>
      clear sa ca0 ca1 ca2 ca3 ca4
      clear sb cb0 cb1 cb2 cb3 cb4 fb0 fb1 fb2 fb3 fb4
      clear hB hA hn0 ra rb
      obtain ⟨i,c,p,rfl,hi65,hO,hA,hn0,hB,ra,rb⟩:=hrel
      obtain ⟨sa,ca0,ca1,ca2,ca3,ca4⟩:=RF5 ra
      obtain ⟨sb,cb0,cb1,cb2,cb3,cb4,fb0,fb1,fb2,fb3,fb4⟩:=RFz5 rb
      rcases Nat.lt_or_ge i 65 with hlt | hge
      ·have hiI:(i:Int)≤64:=by omega
       have hi9:i≤100000:=by omega
       have hwr:IntKind.i64.wrap (1+(i:Int))=1+(i:Int):=by rw [IntKind.wrap_i64];omega
       have hls:=HLS.out i hlt
       have HLI:=Lib.hid hls
       clear hls
       go_wp2_with fail
       refine wp_region_items3 7 [.val (.pointer (some ⟨W3.heap.size+1,2,none⟩)),.val (.slice p i c),.val (.int .i64 (i:Int)),.val (.int .i64 (1+(i:Int))),.val (.agg #[.string (S q1.num),.string (S (q1.den:Int))]),.val (.agg #[.int .i64 (1+(i:Int)),.string (S q1.num),.string (S (q1.den:Int))]),.say (SayNew 1 62 #[.int .i64 (1+(i:Int)),.string (S q1.num),.string (S (q1.den:Int))])] [] (by kernel_rfl) (by kernel_rfl) rfl ⟨SayNew.mono _ _ _,trivial⟩ (allItems.cons qi0 (allItems.cons (qi1 fun X h=>RFz5 (Row.below rb h)) (allItems.cons qi0 (allItems.cons (qif hwr) (allItems.cons (qi2 fun X h=>Rq1 X) (allItems.cons qi0 (allItems.cons qin trivial))))))) ?_
       rintro W h1
       replace hA:=UAt.below hA h1
       replace hO:=OU.later hO h1
       replace hn0:=le_below hn0 h1
       have stp:=St2 hB h1 ra rb;clear hB h1 ra sa ca0 ca1 ca2 ca3 ca4 rb sb cb0 cb1 cb2 cb3 cb4 fb0 fb1 fb2 fb3 fb4
       obtain ⟨hB,ra,rb⟩:=stp
       obtain ⟨sa,ca0,ca1,ca2,ca3,ca4⟩:=RF5 ra
       obtain ⟨sb,cb0,cb1,cb2,cb3,cb4,fb0,fb1,fb2,fb3,fb4⟩:=RFz5 rb
       simp only [setItems,List.setIfInBounds_toArray,List.set_cons_succ,List.set_cons_zero,List.take_succ_cons,List.take_zero,List.drop_succ_cons,List.drop_zero]
       rintro _ ⟨gb,rfl,rgb⟩
       intro _
       go_upto_region 24 with (at_builtin;refine wpl_append_raw rfl (.tmp 95) (.tmp 100) rfl n0 p i c (LI i) rfl hO (some ⟨gb,0,none⟩) 1 1 [⟨1+(i:Int),S q1.num,S (q1.den:Int)⟩] rfl rfl (uat_new1 rgb) (i+1) rfl hi9 (by omega) hn0 ?_;intro p9 c9 Y9 own9 hg9;replace ra:=own_row_ne hO hg9 ra l_a;replace rb:=own_row_ne hO hg9 rb l_b;replace hA:=uat_grown hA HPL hO hg9;replace hB:=Below.grown hB hg9 hB.size (fun k hk=>by have:=(World.ownsRow.lt hO k hk).1;omega);have hn0:n0≤_:=Nat.le_trans hn0 hg9.size;clear hg9 hO;(try clear sa ca0 ca1 ca2 ca3 ca4 sb cb0 cb1 cb2 cb3 cb4 fb0 fb1 fb2 fb3 fb4);have hO:=own9;clear own9;obtain ⟨sb,cb0,cb1,cb2,cb3,cb4,fb0,fb1,fb2,fb3,fb4⟩:=RFz5 rb)
       go_wp2
       go_roundw
       case rel=>exact ⟨i+1,c9,p9,by go_num,by omega,(by rw [HLI.out];exact OW),TW,(by first | omega | (simp;done) | (simp;omega)),BW,RW8,RW8⟩
       case measure=>simp [RowKit.intOf];omega
      ·obtain rfl:i=65:=by omega
       have hU:=own_uat hO N5.1
       clear hO hn0
       go_wp2
       go_meet
       case rel=>exact ⟨_,_,_,_,_,_,_,_,N5,TW,TW,BW,RW8,RW8⟩
    ·go_upto_region 9 with fail
     clear ro
     clear so co0 co1 co2
     go_wp2_with (at_builtin;refine wpl_append_raw rfl (.tmp 48) (.tmp 51) rfl n0 pe n ce (raws A.t) rfl (World.ownsRow.alloc hO _) (some ⟨W9.heap.size,0,none⟩) 1 1 [⟨9,⟨#[]⟩,⟨#[]⟩⟩] rfl rfl (uat_new1 (row_new _ _)) (n+1) rfl hn1 (by omega) (by simp;omega) ?_;intro p9 c9 Y9 own9 hg9;replace ra:=own_row_ne (World.ownsRow.alloc hO _) hg9 (Row.alloc ra _) l_a;replace rb:=own_row_ne (World.ownsRow.alloc hO _) hg9 (Row.alloc rb _) l_b;replace hA:=uat_grown (UAt.alloc hA _) HPL (World.ownsRow.alloc hO _) hg9;replace hB:=Below.grown (hB.alloc hB.size _) hg9 (by simp;have:=hB.size;omega) (fun k hk=>by have:=(World.ownsRow.lt hO k hk).1;omega);have hn0:n0≤_:=Nat.le_trans (by simp;omega) hg9.size;clear hg9;(try clear sa ca0 ca1 ca2 ca3 ca4 sb cb0 cb1 cb2 cb3 cb4 fb0 fb1 fb2 fb3 fb4);have hU:=own_uat own9 N6.1;clear own9 hO;obtain ⟨sb,cb0,cb1,cb2,cb3,cb4,fb0,fb1,fb2,fb3,fb4⟩:=RFz5 rb)
     go_meet
     case rel=>exact ⟨_,_,_,_,_,_,_,_,N6,TW,TW,BW,RW8,RW8⟩
   case rest =>
    clear hB ra rb ro hA hO hn0
    clear sa ca0 ca1 ca2 ca3 ca4
    clear sb cb0 cb1 cb2 cb3 cb4 fb0 fb1 fb2 fb3 fb4
    clear so co0 co1 co2
    obtain ⟨b1,b2,b3,b4,L,m,cb,pb,NB,hb,hA,hB,ra,rb⟩:=hcut
    obtain ⟨sa,ca0,ca1,ca2,ca3,ca4⟩:=RF5 ra
    obtain ⟨sb,cb0,cb1,cb2,cb3,cb4,fb0,fb1,fb2,fb3,fb4⟩:=RFz5 rb
    go_wp2_with fail
    refine (AD _ pA cA b1 b2 b3 b4 pb m cb hA (he.below hB) (fun Y hY=>NB.valid Y pb cb (UAt.below hb hY) ((he.env.below hB).below hY))).mono ?_
    rintro e W10 ⟨rfl,h1⟩
    replace hA:=UAt.below hA h1
    replace hb:=UAt.below hb h1
    have stp:=St2 hB h1 ra rb;clear hB h1 ra sa ca0 ca1 ca2 ca3 ca4 rb sb cb0 cb1 cb2 cb3 cb4 fb0 fb1 fb2 fb3 fb4
    obtain ⟨hB,ra,rb⟩:=stp
    obtain ⟨sa,ca0,ca1,ca2,ca3,ca4⟩:=RF5 ra
    obtain ⟨sb,cb0,cb1,cb2,cb3,cb4,fb0,fb1,fb2,fb3,fb4⟩:=RFz5 rb
    go_wp2_with fail
    have sB:=hB.size
    refine world_cut (fun X=>Below w.heap.size w X∧Row X W3.heap.size (.cells #[.string (S A.c.num),.string (S (A.c.den:Int)),.slice pA n cA,.string (S A.r.num),.string (S (A.r.den:Int))] 58)∧Row X (W3.heap.size+1) (.cells #[.string b1,.string b2,.slice pb m cb,.string b3,.string b4] 58)∧TAt 62 X pA A.t∧UAt 62 X pb L) ⟨BW,RW8,RW8,TW,TW⟩ ?_
    clear ra
    clear sa ca0 ca1 ca2 ca3 ca4
    clear rb
    clear sb cb0 cb1 cb2 cb3 cb4 fb0 fb1 fb2 fb3 fb4
    clear hB sB hA hb
    rintro V11 ⟨hB,ra,rb,hA,hb⟩
    obtain ⟨sa,ca0,ca1,ca2,ca3,ca4⟩:=RF5 ra
    obtain ⟨sb,cb0,cb1,cb2,cb3,cb4,fb0,fb1,fb2,fb3,fb4⟩:=RFz5 rb
    refine (ML _ pA cA b1 b2 b3 b4 pb m cb hA (he.below hB) (fun Y hY=>NB.valid Y pb cb (UAt.below hb hY) ((he.env.below hB).below hY))).mono ?_
    rintro e W12 ⟨rfl,h1⟩
    replace hA:=UAt.below hA h1
    replace hb:=UAt.below hb h1
    have stp:=St2 hB h1 ra rb;clear hB h1 ra sa ca0 ca1 ca2 ca3 ca4 rb sb cb0 cb1 cb2 cb3 cb4 fb0 fb1 fb2 fb3 fb4
    obtain ⟨hB,ra,rb⟩:=stp
    obtain ⟨sa,ca0,ca1,ca2,ca3,ca4⟩:=RF5 ra
    obtain ⟨sb,cb0,cb1,cb2,cb3,cb4,fb0,fb1,fb2,fb3,fb4⟩:=RFz5 rb
    go_wp2_with fail
    have sB:=hB.size
    refine world_cut (fun X=>Below w.heap.size w X∧Row X W3.heap.size (.cells #[.string (S A.c.num),.string (S (A.c.den:Int)),.slice pA n cA,.string (S A.r.num),.string (S (A.r.den:Int))] 58)∧Row X (W3.heap.size+1) (.cells #[.string b1,.string b2,.slice pb m cb,.string b3,.string b4] 58)∧TAt 62 X pA A.t∧UAt 62 X pb L) ⟨BW,RW8,RW8,TW,TW⟩ ?_
    clear ra
    clear sa ca0 ca1 ca2 ca3 ca4
    clear rb
    clear sb cb0 cb1 cb2 cb3 cb4 fb0 fb1 fb2 fb3 fb4
    clear hB sB hA hb
    rintro V13 ⟨hB,ra,rb,hA,hb⟩
    obtain ⟨sa,ca0,ca1,ca2,ca3,ca4⟩:=RF5 ra
    obtain ⟨sb,cb0,cb1,cb2,cb3,cb4,fb0,fb1,fb2,fb3,fb4⟩:=RFz5 rb
    refine (RG _ b1 b2 b3 b4 pb m cb (he.below hB) (fun Y hY=>NB.valid Y pb cb (UAt.below hb hY) ((he.env.below hB).below hY))).mono ?_
    rintro e W14 ⟨rfl,h1⟩
    replace hA:=UAt.below hA h1
    replace hb:=UAt.below hb h1
    have stp:=St2 hB h1 ra rb;clear hB h1 ra sa ca0 ca1 ca2 ca3 ca4 rb sb cb0 cb1 cb2 cb3 cb4 fb0 fb1 fb2 fb3 fb4
    obtain ⟨hB,ra,rb⟩:=stp
    obtain ⟨sa,ca0,ca1,ca2,ca3,ca4⟩:=RF5 ra
    obtain ⟨sb,cb0,cb1,cb2,cb3,cb4,fb0,fb1,fb2,fb3,fb4⟩:=RFz5 rb
    go_wp2_with fail
    have sB:=hB.size
    refine wp_cut (fun X=>Below w.heap.size w X∧Row X W3.heap.size (.cells #[.string (S A.c.num),.string (S (A.c.den:Int)),.slice pA n cA,.string (S A.r.num),.string (S (A.r.den:Int))] 58)∧Row X (W3.heap.size+1) (.cells #[.string b1,.string b2,.slice pb m cb,.string b3,.string b4] 58)∧TAt 62 X pA A.t∧UAt 62 X pb L) ⟨BW,RW8,RW8,TW,TW⟩ ?_
    clear ra
    clear sa ca0 ca1 ca2 ca3 ca4
    clear rb
    clear sb cb0 cb1 cb2 cb3 cb4 fb0 fb1 fb2 fb3 fb4
    clear hB sB hA hb
    rintro V15 ⟨hB,ra,rb,hA,hb⟩
    obtain ⟨sa,ca0,ca1,ca2,ca3,ca4⟩:=RF5 ra
    obtain ⟨sb,cb0,cb1,cb2,cb3,cb4,fb0,fb1,fb2,fb3,fb4⟩:=RFz5 rb
    have da_s:=ra.1
    have db_s:=rb.1
    have d0_s:=hB.size
    refine wp_region_late 9 [7] [.val (.agg #[.string (S A.c.num),.string (S (A.c.den:Int)),.slice pA n cA,.string (S A.r.num),.string (S (A.r.den:Int))]),.val (.agg #[.string (S q54.num),.string (S (q54.den:Int))]),.val (.agg #[.int .i64 1,.string (S q54.num),.string (S (q54.den:Int))]),.say (SayNew 1 62 #[.int .i64 1,.string (S q54.num),.string (S (q54.den:Int))]),.val (.tuple #[.agg #[.string ⟨#[]⟩,.string ⟨#[]⟩,.string ⟨#[]⟩,.string ⟨#[]⟩],.int .i64 80]),.val (.tuple #[.agg #[.string ⟨#[]⟩,.string ⟨#[]⟩,.string ⟨#[]⟩,.string ⟨#[]⟩],.int .i64 80]),.val (.agg #[.string ⟨#[]⟩,.string ⟨#[]⟩,.string ⟨#[]⟩,.string ⟨#[]⟩]),.val (.int .i64 80),.say (fresh _ (.cells #[.string ⟨#[]⟩,.string ⟨#[]⟩,.string ⟨#[]⟩,.string ⟨#[]⟩] 30))] [18] (by kernel_rfl) (by kernel_rfl) (by kernel_rfl) rfl ⟨SayNew.mono _ _ _,⟨fresh_mono _ _,trivial⟩⟩ (allItems.cons (qi1 fun X h=>RF5 (Row.below ra h)) (allItems.cons (qi2 fun X h=>Rq54 X) (allItems.cons qi0 (allItems.cons qin (allItems.cons (qId8 (by intro ρ X qX qc qg qf qt qd;simp [depsSay,itemSp,QItem.sp,Region.binds] at qd;obtain ⟨e1,⟨g,e2,rg⟩,e3⟩:=qd;simp [Region.wanted,yieldedBy,quietly,QItem.sp,execOp,go_sem,foreign,qc,qt,qf,e1,e2];refine ⟨Below.refl _ _,(H4 X _ _ _ (UAt.below hA qX) rg (he.below (hB.trans (qX.mono hB.size)))).mono ?_⟩;rintro e Y ⟨rfl,h1⟩;exact ⟨_,rfl,rfl,h1⟩)) (allItems.cons qi0 (allItems.cons qi0 (allItems.cons qi0 (allItems.cons qia trivial))))))))) ?_
    rintro W h1
    replace hA:=UAt.below hA h1
    replace hb:=UAt.below hb h1
    have stp:=St2 hB h1 ra rb;clear hB h1 ra sa ca0 ca1 ca2 ca3 ca4 rb sb cb0 cb1 cb2 cb3 cb4 fb0 fb1 fb2 fb3 fb4
    obtain ⟨hB,ra,rb⟩:=stp
    obtain ⟨sa,ca0,ca1,ca2,ca3,ca4⟩:=RF5 ra
    obtain ⟨sb,cb0,cb1,cb2,cb3,cb4,fb0,fb1,fb2,fb3,fb4⟩:=RFz5 rb
    simp only [setItems,List.setIfInBounds_toArray,List.set_cons_succ,List.set_cons_zero,List.take_succ_cons,List.take_zero,List.drop_succ_cons,List.drop_zero]
    rintro _ ⟨g1,rfl,_⟩
    rintro _ ⟨ps,rfl,hs,rs⟩
    replace da_s:=Nat.lt_of_lt_of_le da_s hs
    replace db_s:=Nat.lt_of_lt_of_le db_s hs
    replace d0_s:=Nat.le_trans d0_s hs
    obtain ⟨ss,cs0,cs1,cs2,cs3,fs0,fs1,fs2,fs3⟩:=RFz4 rs
    intro _
    go_wp2_with fail
    unfold normalQ
    go_wp2_with fail
    have sB:=hB.size
    refine wp_cut (fun X=>Below w.heap.size w X∧Row X W3.heap.size (.cells #[.string (S A.c.num),.string (S (A.c.den:Int)),.slice pA n cA,.string (S A.r.num),.string (S (A.r.den:Int))] 58)∧Row X (W3.heap.size+1) (.cells #[.string b1,.string b2,.slice pb m cb,.string b3,.string b4] 58)∧TAt 62 X pA A.t∧UAt 62 X pb L) ⟨BW,RW8,RW8,TW,TW⟩ ?_
    clear ra
    clear sa ca0 ca1 ca2 ca3 ca4
    clear rb
    clear sb cb0 cb1 cb2 cb3 cb4 fb0 fb1 fb2 fb3 fb4
    clear rs
    clear ss cs0 cs1 cs2 cs3 fs0 fs1 fs2 fs3
    clear hB sB hA hb
    rintro V16 ⟨hB,ra,rb,hA,hb⟩
    obtain ⟨sa,ca0,ca1,ca2,ca3,ca4⟩:=RF5 ra
    obtain ⟨sb,cb0,cb1,cb2,cb3,cb4,fb0,fb1,fb2,fb3,fb4⟩:=RFz5 rb
    have da_t:=ra.1
    have db_t:=rb.1
    have d0_t:=hB.size
    refine wp_region_late 10 [8] [.val (.agg #[.string (S A.c.num),.string (S (A.c.den:Int)),.slice pA n cA,.string (S A.r.num),.string (S (A.r.den:Int))]),.val (.int .i64 n2),.val (.agg #[.string (S q14.num),.string (S (q14.den:Int))]),.val (.agg #[.int .i64 n2,.string (S q14.num),.string (S (q14.den:Int))]),.say (SayNew 1 62 #[.int .i64 n2,.string (S q14.num),.string (S (q14.den:Int))]),.val (.tuple #[.agg #[.string ⟨#[]⟩,.string ⟨#[]⟩,.string ⟨#[]⟩,.string ⟨#[]⟩],.int .i64 80]),.val (.tuple #[.agg #[.string ⟨#[]⟩,.string ⟨#[]⟩,.string ⟨#[]⟩,.string ⟨#[]⟩],.int .i64 80]),.val (.agg #[.string ⟨#[]⟩,.string ⟨#[]⟩,.string ⟨#[]⟩,.string ⟨#[]⟩]),.val (.int .i64 80),.say (fresh _ (.cells #[.string ⟨#[]⟩,.string ⟨#[]⟩,.string ⟨#[]⟩,.string ⟨#[]⟩] 30))] [20] (by kernel_rfl) (by kernel_rfl) (by kernel_rfl) rfl ⟨SayNew.mono _ _ _,⟨fresh_mono _ _,trivial⟩⟩ (allItems.cons (qi1 fun X h=>RF5 (Row.below ra h)) (allItems.cons qi0 (allItems.cons (qi2 fun X h=>Rq14 X) (allItems.cons qi0 (allItems.cons qin (allItems.cons (qId8 (by intro ρ X qX qc qg qf qt qd;simp [depsSay,itemSp,QItem.sp,Region.binds] at qd;obtain ⟨e1,⟨g,e2,rg⟩,e3⟩:=qd;simp [Region.wanted,yieldedBy,quietly,QItem.sp,execOp,go_sem,foreign,qc,qt,qf,e1,e2];refine ⟨Below.refl _ _,(H5 X _ _ _ (UAt.below hA qX) rg (he.below (hB.trans (qX.mono hB.size)))).mono ?_⟩;rintro e Y ⟨rfl,h1⟩;exact ⟨_,rfl,rfl,h1⟩)) (allItems.cons qi0 (allItems.cons qi0 (allItems.cons qi0 (allItems.cons qia trivial)))))))))) ?_
    rintro W h1
    replace hA:=UAt.below hA h1
    replace hb:=UAt.below hb h1
    have stp:=St2 hB h1 ra rb;clear hB h1 ra sa ca0 ca1 ca2 ca3 ca4 rb sb cb0 cb1 cb2 cb3 cb4 fb0 fb1 fb2 fb3 fb4
    obtain ⟨hB,ra,rb⟩:=stp
    obtain ⟨sa,ca0,ca1,ca2,ca3,ca4⟩:=RF5 ra
    obtain ⟨sb,cb0,cb1,cb2,cb3,cb4,fb0,fb1,fb2,fb3,fb4⟩:=RFz5 rb
    simp only [setItems,List.setIfInBounds_toArray,List.set_cons_succ,List.set_cons_zero,List.take_succ_cons,List.take_zero,List.drop_succ_cons,List.drop_zero]
    rintro _ ⟨g2,rfl,_⟩
    rintro _ ⟨pt,rfl,ht,rt⟩
    replace da_t:=Nat.lt_of_lt_of_le da_t ht
    replace db_t:=Nat.lt_of_lt_of_le db_t ht
    replace d0_t:=Nat.le_trans d0_t ht
    obtain ⟨st,ct0,ct1,ct2,ct3,ft0,ft1,ft2,ft3⟩:=RFz4 rt
    intro _
    go_wp2_with fail
    unfold normalQ
    go_wp2_with fail
    have sB:=hB.size
    refine wp_cut (fun X=>Below w.heap.size w X∧Row X W3.heap.size (.cells #[.string (S A.c.num),.string (S (A.c.den:Int)),.slice pA n cA,.string (S A.r.num),.string (S (A.r.den:Int))] 58)∧Row X (W3.heap.size+1) (.cells #[.string b1,.string b2,.slice pb m cb,.string b3,.string b4] 58)∧TAt 62 X pA A.t∧UAt 62 X pb L) ⟨BW,RW8,RW8,TW,TW⟩ ?_
    clear ra
    clear sa ca0 ca1 ca2 ca3 ca4
    clear rb
    clear sb cb0 cb1 cb2 cb3 cb4 fb0 fb1 fb2 fb3 fb4
    clear rt
    clear st ct0 ct1 ct2 ct3 ft0 ft1 ft2 ft3
    clear hB sB hA hb
    rintro V17 ⟨hB,ra,rb,hA,hb⟩
    obtain ⟨sa,ca0,ca1,ca2,ca3,ca4⟩:=RF5 ra
    obtain ⟨sb,cb0,cb1,cb2,cb3,cb4,fb0,fb1,fb2,fb3,fb4⟩:=RFz5 rb
    have da_u:=ra.1
    have db_u:=rb.1
    have d0_u:=hB.size
    refine wp_region_late 11 [9] [.val (.agg #[.string (S A.c.num),.string (S (A.c.den:Int)),.slice pA n cA,.string (S A.r.num),.string (S (A.r.den:Int))]),.val (.agg #[.string (S A.c.num),.string (S (A.c.den:Int)),.slice pA n cA,.string (S A.r.num),.string (S (A.r.den:Int))]),.val (.int .i64 n2),.val (.agg #[.string (S q12.num),.string (S (q12.den:Int))]),.val (.agg #[.int .i64 n2,.string (S q12.num),.string (S (q12.den:Int))]),.say (SayNew 1 70 #[.int .i64 n2,.string (S q12.num),.string (S (q12.den:Int))]),.val (.tuple #[.agg #[.string ⟨#[]⟩,.string ⟨#[]⟩],.int .i64 80]),.val (.tuple #[.agg #[.string ⟨#[]⟩,.string ⟨#[]⟩],.int .i64 80]),.val (.agg #[.string ⟨#[]⟩,.string ⟨#[]⟩]),.val (.int .i64 80),.say (fresh _ (.cells #[.string ⟨#[]⟩,.string ⟨#[]⟩] 23))] [22] (by kernel_rfl) (by kernel_rfl) (by kernel_rfl) rfl ⟨SayNew.mono _ _ _,⟨fresh_mono _ _,trivial⟩⟩ (allItems.cons (qi1 fun X h=>RF5 (Row.below ra h)) (allItems.cons (qi1 fun X h=>RF5 (Row.below ra h)) (allItems.cons qi0 (allItems.cons (qi2 fun X h=>Rq12 X) (allItems.cons qi0 (allItems.cons qin (allItems.cons (qId8 (by intro ρ X qX qc qg qf qt qd;simp [depsSay,itemSp,QItem.sp,Region.binds] at qd;obtain ⟨e0,e1,⟨g,e2,rg⟩,e3⟩:=qd;simp [Region.wanted,yieldedBy,quietly,QItem.sp,execOp,go_sem,foreign,qc,qt,qf,e0,e1,e2];refine ⟨Below.refl _ _,(H6 X _ _ _ (UAt.below hA qX) rg (he.below (hB.trans (qX.mono hB.size)))).mono ?_⟩;rintro e Y ⟨rfl,h1⟩;exact ⟨_,rfl,rfl,h1⟩)) (allItems.cons qi0 (allItems.cons qi0 (allItems.cons qi0 (allItems.cons qia trivial))))))))))) ?_
    rintro W h1
    replace hA:=UAt.below hA h1
    replace hb:=UAt.below hb h1
    have stp:=St2 hB h1 ra rb;clear hB h1 ra sa ca0 ca1 ca2 ca3 ca4 rb sb cb0 cb1 cb2 cb3 cb4 fb0 fb1 fb2 fb3 fb4
    obtain ⟨hB,ra,rb⟩:=stp
    obtain ⟨sa,ca0,ca1,ca2,ca3,ca4⟩:=RF5 ra
    obtain ⟨sb,cb0,cb1,cb2,cb3,cb4,fb0,fb1,fb2,fb3,fb4⟩:=RFz5 rb
    simp only [setItems,List.setIfInBounds_toArray,List.set_cons_succ,List.set_cons_zero,List.take_succ_cons,List.take_zero,List.drop_succ_cons,List.drop_zero]
    rintro _ ⟨g3,rfl,_⟩
    rintro _ ⟨pu,rfl,hu,ru⟩
    replace da_u:=Nat.lt_of_lt_of_le da_u hu
    replace db_u:=Nat.lt_of_lt_of_le db_u hu
    replace d0_u:=Nat.le_trans d0_u hu
    obtain ⟨su,cu0,cu1,fu0,fu1⟩:=RFz2 ru
    intro _
    go_wp2_with fail
    unfold normalQ
    go_wp2_with fail
    have sB:=hB.size
    refine wp_cut (fun X=>Below w.heap.size w X∧Row X W3.heap.size (.cells #[.string (S A.c.num),.string (S (A.c.den:Int)),.slice pA n cA,.string (S A.r.num),.string (S (A.r.den:Int))] 58)∧Row X (W3.heap.size+1) (.cells #[.string b1,.string b2,.slice pb m cb,.string b3,.string b4] 58)∧TAt 62 X pA A.t∧UAt 62 X pb L) ⟨BW,RW8,RW8,TW,TW⟩ ?_
    clear ra
    clear sa ca0 ca1 ca2 ca3 ca4
    clear rb
    clear sb cb0 cb1 cb2 cb3 cb4 fb0 fb1 fb2 fb3 fb4
    clear ru
    clear su cu0 cu1 fu0 fu1
    clear hB sB hA hb
    rintro V18 ⟨hB,ra,rb,hA,hb⟩
    obtain ⟨sa,ca0,ca1,ca2,ca3,ca4⟩:=RF5 ra
    obtain ⟨sb,cb0,cb1,cb2,cb3,cb4,fb0,fb1,fb2,fb3,fb4⟩:=RFz5 rb
    have da_v:=ra.1
    have db_v:=rb.1
    have d0_v:=hB.size
    refine wp_region_phase 13 7 [11] [.val (.agg #[.string (S A.c.num),.string (S (A.c.den:Int)),.slice pA n cA,.string (S A.r.num),.string (S (A.r.den:Int))]),.val (.agg #[.string (S A.c.num),.string (S (A.c.den:Int)),.slice pA n cA,.string (S A.r.num),.string (S (A.r.den:Int))]),.val (.agg #[.int .i64 0,.int .i64 0,.int .i64 0,.int .i64 0,.int .i64 0,.int .i64 0]),.say (SayOwnS V18.heap.size 6 S6),.val (.agg #[.string (S q54.num),.string (S (q54.den:Int))]),.val (.agg #[.int .i64 7,.string (S q54.num),.string (S (q54.den:Int))]),.say (SayNew 1 70 #[.int .i64 7,.string (S q54.num),.string (S (q54.den:Int))]),.say (fun _ _=>False),.say (fun _ _=>False),.say (fun _ _=>False),.say (fun _ _=>False),.say (fun _ _=>False),.say (fresh _ (.cells #[.string ⟨#[]⟩,.string ⟨#[]⟩] 23))] [.val (.agg #[.string (S A.c.num),.string (S (A.c.den:Int)),.slice pA n cA,.string (S A.r.num),.string (S (A.r.den:Int))]),.val (.agg #[.string (S A.c.num),.string (S (A.c.den:Int)),.slice pA n cA,.string (S A.r.num),.string (S (A.r.den:Int))]),.val (.agg #[.int .i64 0,.int .i64 0,.int .i64 0,.int .i64 0,.int .i64 0,.int .i64 0]),.say (fun _ _=>True),.val (.agg #[.string (S q54.num),.string (S (q54.den:Int))]),.val (.agg #[.int .i64 7,.string (S q54.num),.string (S (q54.den:Int))]),.say (fun _ _=>True),.say (SayOwnS V18.heap.size 7 (S6 ++ [⟨7,S q54.num,S (q54.den:Int)⟩])),.val (.tuple #[.agg #[.string ⟨#[]⟩,.string ⟨#[]⟩],.int .i64 80]),.val (.tuple #[.agg #[.string ⟨#[]⟩,.string ⟨#[]⟩],.int .i64 80]),.val (.agg #[.string ⟨#[]⟩,.string ⟨#[]⟩]),.val (.int .i64 80),.say (fresh _ (.cells #[.string ⟨#[]⟩,.string ⟨#[]⟩] 23))] [false,false,false,false,false,false,false,true,true,true,true,true,false] [false,false,true,true,true,true,true,true,false,false,false,false,false] [24] (by kernel_rfl) (by kernel_rfl) (by kernel_rfl) rfl (by kernel_rfl) (by kernel_rfl) ⟨SayOwnS.mono _ _ _,⟨SayNew.mono _ _ _,⟨say_mono _,⟨say_mono _,⟨say_mono _,⟨say_mono _,⟨say_mono _,⟨fresh_mono _ _,trivial⟩⟩⟩⟩⟩⟩⟩⟩ ⟨say_mono _,⟨say_mono _,⟨SayOwnS.mono _ _ _,⟨fresh_mono _ _,trivial⟩⟩⟩⟩ (soI (qi1 fun X h=>RF5 (Row.below ra h)) (soI (qi1 fun X h=>RF5 (Row.below ra h)) (soI qi0 (soI (qId8 (by intro ρ X qX qc qg qf qt qd;simp [depsSay,itemSp,QItem.sp,Region.binds] at qd;simp [Region.wanted,yieldedBy,quietly,QItem.sp,execOp,go_sem,foreign,qc,qt,qf,qd];refine ⟨Below.refl _ _,(SO _ X qX.size).mono ?_⟩;rintro e Y ⟨v,rfl,hs,h1⟩;exact ⟨_,rfl,hs,h1⟩)) (soI (qi2 fun X h=>Rq54 X) (soI qi0 (soI qin (soS (soS (soS (soS (soS (soI qia trivial))))))))))))) (soI (qi1 fun X h=>RF5 (Row.below ra h)) (soI (qi1 fun X h=>RF5 (Row.below ra h)) (soS (soS (soS (soS (soS (soS (soI (qId8 (by intro ρ X qX qc qg qf qt qd;simp [depsSay,itemSp,QItem.sp,Region.binds] at qd;obtain ⟨e0,e1,p,c,e2,own⟩:=qd;simp [Region.wanted,yieldedBy,quietly,QItem.sp,execOp,go_sem,foreign,qc,qt,qf,e0,e1,e2];refine ⟨Below.refl _ _,(H7 X _ _ _ _ (UAt.below hA qX) (own_uat own (by rw [List.length_append,hS6];rfl)) (he.below (hB.trans (qX.mono hB.size)))).mono ?_⟩;rintro e Y ⟨rfl,h1⟩;exact ⟨_,rfl,rfl,h1⟩)) (soI qi0 (soI qi0 (soI qi0 (soI qia trivial))))))))))))) ?hk ?_
    case hk =>
     intro o ho ρ X hX qc qt qd
     have ho2:o.op = .call { callee := .builtin .append,args:=#[.tmp 151,.tmp 154],argTypes:=#[71, 71] }:=by cases ho;rfl
     have RUN:=fun n0 p j c l hs hown g i a b hx hr hl hb=>source_append_run (.tmp 151) (.tmp 154) ho2 ρ X n0 p j c l hs hown g i a b hx hr hl hb
     cases ho
     simp [depsSay,itemSp,QItem.sp,Region.binds] at qd
     obtain ⟨⟨p,c,e1,own⟩,⟨g,e2,rg⟩,e3⟩:=qd
     obtain ⟨v,W',hr,⟨p',c',rfl,own'⟩,hg⟩:=RUN _ p 6 c S6 e1 own g 7 _ _ e2 rg (by omega) hX.size
     exact ⟨_,W',hr,⟨p',c',rfl,own'⟩,Below.grown hX hg hX.size (fun k hk=>(World.ownsRow.lt own k hk).1),hg.size,⟨fun _ h=>h,fun _ h=>h,fun _ h=>h,fun _ _=>trivial,fun _ h=>h,fun _ h=>h,fun _ _=>trivial,fun _ h=>h.elim,fun _ h=>h.elim,fun _ h=>h.elim,fun _ h=>h.elim,fun _ h=>h.elim,fun u h=>(by obtain ⟨b,e,hb,hr9⟩:=h;exact ⟨b,e,hb,own_row_type own hg hr9 (by decide)⟩),trivial⟩⟩
    rintro W h1
    replace hA:=UAt.below hA h1
    replace hb:=UAt.below hb h1
    have stp:=St2 hB h1 ra rb;clear hB h1 ra sa ca0 ca1 ca2 ca3 ca4 rb sb cb0 cb1 cb2 cb3 cb4 fb0 fb1 fb2 fb3 fb4
    obtain ⟨hB,ra,rb⟩:=stp
    obtain ⟨sa,ca0,ca1,ca2,ca3,ca4⟩:=RF5 ra
    obtain ⟨sb,cb0,cb1,cb2,cb3,cb4,fb0,fb1,fb2,fb3,fb4⟩:=RFz5 rb
    simp only [setItems,List.setIfInBounds_toArray,List.set_cons_succ,List.set_cons_zero,List.take_succ_cons,List.take_zero,List.drop_succ_cons,List.drop_zero]
    rintro _ _
    rintro _ _
    rintro _ ⟨p7,c7,rfl,_⟩
    rintro _ ⟨pv,rfl,hv,rv⟩
    replace da_v:=Nat.lt_of_lt_of_le da_v hv
    replace db_v:=Nat.lt_of_lt_of_le db_v hv
    replace d0_v:=Nat.le_trans d0_v hv
    obtain ⟨sv,cv0,cv1,fv0,fv1⟩:=RFz2 rv
    intro _
    go_wp2_with fail
    unfold normalQ
    go_wp2_with fail
    have sB:=hB.size
    refine world_cut (fun X=>Below w.heap.size w X∧Row X W3.heap.size (.cells #[.string (S A.c.num),.string (S (A.c.den:Int)),.slice pA n cA,.string (S A.r.num),.string (S (A.r.den:Int))] 58)∧Row X (W3.heap.size+1) (.cells #[.string b1,.string b2,.slice pb m cb,.string b3,.string b4] 58)∧TAt 62 X pA A.t∧UAt 62 X pb L) ⟨BW,RW8,RW8,TW,TW⟩ ?_
    clear ra
    clear sa ca0 ca1 ca2 ca3 ca4
    clear rb
    clear sb cb0 cb1 cb2 cb3 cb4 fb0 fb1 fb2 fb3 fb4
    clear rv
    clear sv cv0 cv1 fv0 fv1
    clear hB sB hA hb
    rintro V19 ⟨hB,ra,rb,hA,hb⟩
    obtain ⟨sa,ca0,ca1,ca2,ca3,ca4⟩:=RF5 ra
    obtain ⟨sb,cb0,cb1,cb2,cb3,cb4,fb0,fb1,fb2,fb3,fb4⟩:=RFz5 rb
    refine (NB.valid _ _ _ hb (he.env.below hB)).mono ?_
    rintro e W20 ⟨rfl,h1⟩
    replace hA:=UAt.below hA h1
    replace hb:=UAt.below hb h1
    have stp:=St2 hB h1 ra rb;clear hB h1 ra sa ca0 ca1 ca2 ca3 ca4 rb sb cb0 cb1 cb2 cb3 cb4 fb0 fb1 fb2 fb3 fb4
    obtain ⟨hB,ra,rb⟩:=stp
    obtain ⟨sa,ca0,ca1,ca2,ca3,ca4⟩:=RF5 ra
    obtain ⟨sb,cb0,cb1,cb2,cb3,cb4,fb0,fb1,fb2,fb3,fb4⟩:=RFz5 rb
    go_wp2
    go_ret
    exact ⟨rfl,hB⟩
end Go.Proofs.YtnokpldomlmamaaGreatDoor
