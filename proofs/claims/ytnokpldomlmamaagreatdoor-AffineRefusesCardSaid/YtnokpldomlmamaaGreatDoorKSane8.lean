/-
 The fixed examples that each affine law checks first.
-/
import Derived.Test.YtnokpldomlmamaaGreatDoorKAExample
set_option linter.unusedSimpArgs false
set_option linter.unusedVariables false
set_option maxRecDepth 100000
set_option maxHeartbeats 16000000
namespace Go.Proofs.YtnokpldomlmamaaGreatDoor
open Go Go.RowKit Go.Lib Go.Shelf
attribute [local go_sem] normalQ
/-- A slice that a region has made. -/
def SayNew (n:Nat) (T:TypeId) (vs:Array Value):QSay:=fun v W=>∃ b,v = .slice (some ⟨b,0,none⟩) n n∧Row W b (.cells vs T)
theorem SayNew.mono (n:Nat) (T:TypeId) (vs:Array Value):qMono (SayNew n T vs):=fun v W W' ⟨b,e,hr⟩ hB=>⟨b,e,Row.below hr hB⟩
theorem sayNew_new (X:World) (n:Nat) (T:TypeId) (vs:Array Value):SayNew n T vs (.slice (some ⟨X.heap.size,0,none⟩) n n) (X.alloc (.cells vs T))∧Below X.heap.size X (X.alloc (.cells vs T)):=⟨⟨X.heap.size,rfl,row_new _ _⟩,(Below.refl _ _).alloc (Nat.le_refl _) _⟩
theorem qin {p:Prop} (h:p:=by intro ρ X qX qc qg qf qt qd;simp [depsSay,itemSp,QItem.sp,Region.binds] at qd;simp [Region.wanted,yieldedBy,quietly,QItem.sp,execOp,go_sem,foreign,qc,qd,qt];exact sayNew_new X _ _ _):p:=h
def IvQ (a b:Rat) (w:World) (e:Ending) (w':World):Prop:=e = .returned (.tuple #[.agg #[.string (S a.num),.string (S (a.den:Int)),.string (S b.num),.string (S (b.den:Int))],.int .i64 0])∧Below w.heap.size w w'
def ConstZ (z q:Rat) (w:World) (e:Ending) (w':World):Prop:=e = .returned (.agg #[.string (S q.num),.string (S (q.den:Int)),.slice none 0 0,.string (S z.num),.string (S (z.den:Int))])∧Below w.heap.size w w'
/-- A form of such a slice. -/
def SayNF (q r:Rat) (n:Nat) (T:TypeId) (vs:Array Value):QSay:=fun v W=>∃ b,v = .agg #[.string (S q.num),.string (S (q.den:Int)),.slice (some ⟨b,0,none⟩) n n,.string (S r.num),.string (S (r.den:Int))]∧Row W b (.cells vs T)
theorem SayNF.mono (q r:Rat) (n:Nat) (T:TypeId) (vs:Array Value):qMono (SayNF q r n T vs):=fun v W W' ⟨b,e,hr⟩ hB=>⟨b,e,Row.below hr hB⟩
theorem qId8 {p:Prop} (h:p):p:=h
theorem sane8_0 {A B D N M J Z:Frm} {x1 x2 y1 z q0 q6 qm qh q40 q24 q2 q3 q14 qs q112 v q1 qt q4:Rat} (Rx1:RatioIs 17 2 x1) (Rx2:RatioIs 23 2 x2) (Ry1:RatioIs 21 2 y1) (Rq0:RatioIs 0 1 q0) (Rq6:RatioIs 6 1 q6) (Rqm:RatioIs (-1) 1 qm) (Rqh:RatioIs 1 2 qh) (Rq40:RatioIs 40 1 q40) (Rq24:RatioIs 24 1 q24) (Rq2:RatioIs 2 1 q2) (Rq3:RatioIs 3 1 q3) (Rq14:RatioIs 1 4 q14) (Rqs:RatioIs (-1) 6 qs) (Rq112:RatioIs 1 12 q112) (Rv:RatioIs 2 3 v) (Rq1:RatioIs 1 1 q1) (Rqt:RatioIs 1 3 qt) (Rq4:RatioIs 4 1 q4) (EX:∀ (W:World),Calls Tryz.prog 72 #[] W (ExIs A B W)) (AR:∀ (W:World) (p:Option Addr) (c:Nat),TAt 62 W p A.t→Env W→Calls Tryz.prog 30 #[FV A p c] W (IvQ x1 x2 W)) (AA:∀ (W:World) (p:Option Addr) (c:Nat) (g:Nat),TAt 62 W p A.t→Row W g (.cells #[.int .i64 1,.string (S q1.num),.string (S (q1.den:Int))] 62)→Env W→Calls Tryz.prog 31 #[FV A p c,.slice (some ⟨g,0,none⟩) 1 1] W (IvQ y1 x2 W)) (SB:∀ (W:World) (p:Option Addr) (c:Nat) (q:Option Addr) (d:Nat),TAt 62 W p A.t→TAt 62 W q B.t→Env W→Calls Tryz.prog 38 #[FV A p c,FV B q d] W (FRes D W)) (SA:∀ (W:World) (p:Option Addr) (c:Nat) (q:Option Addr) (d:Nat),TAt 62 W p A.t→TAt 62 W q A.t→Env W→Calls Tryz.prog 38 #[FV A p c,FV A q d] W (FRes N W)) (MM:∀ (W:World) (p:Option Addr) (c:Nat) (q:Option Addr) (d:Nat),TAt 62 W p A.t→TAt 62 W q B.t→Env W→Calls Tryz.prog 29 #[FV A p c,FV B q d] W (FRes M W)) (IV:∀ (W:World) (q:Option Addr) (d:Nat),TAt 62 W q B.t→Env W→Calls Tryz.prog 42 #[FV B q d] W (FRes J W)) (CV:∀ (W:World) (p:Option Addr) (c:Nat) (q:Option Addr) (d:Nat) (g:Nat),TAt 62 W p A.t→TAt 62 W q B.t→Row W g (.cells #[.int .i64 1,.string (S qt.num),.string (S (qt.den:Int)),.int .i64 2,.string (S qt.num),.string (S (qt.den:Int))] 70)→Env W→Calls Tryz.prog 32 #[FV A p c,FV B q d,.slice (some ⟨g,0,none⟩) 2 2] W (CovRes v W)) (K4:∀ (W:World),Env W→Calls Tryz.prog 74 #[Q q4] W (ConstZ z q4 W)) (SR:∀ (W:World),Env W→Calls Tryz.prog 73 #[.agg #[.string (S q4.num),.string (S (q4.den:Int)),.slice none 0 0,.string (S z.num),.string (S (z.den:Int))],.int .i64 2] W (FRes Z W)) (K0:∀ (W:World),Env W→Calls Tryz.prog 74 #[Q q0] W (ConstZ z q0 W)) (K2:∀ (W:World),Env W→Calls Tryz.prog 74 #[Q q2] W (ConstZ z q2 W)) (SN:∀ (W:World) (p:Option Addr) (c:Nat),TAt 62 W p N.t→Calls Tryz.prog 75 #[FV N p c,.agg #[.string (S q0.num),.string (S (q0.den:Int)),.slice none 0 0,.string (S z.num),.string (S (z.den:Int))]] W (BoolOk true W)) (SZ:∀ (W:World) (p:Option Addr) (c:Nat),TAt 62 W p Z.t→Calls Tryz.prog 75 #[FV Z p c,.agg #[.string (S q2.num),.string (S (q2.den:Int)),.slice none 0 0,.string (S z.num),.string (S (z.den:Int))]] W (BoolOk true W)) (SD:∀ (W:World) (p:Option Addr) (c:Nat) (g:Nat),TAt 62 W p D.t→Row W g (.cells #[.int .i64 1,.string (S qm.num),.string (S (qm.den:Int)),.int .i64 2,.string (S qh.num),.string (S (qh.den:Int))] 62)→Calls Tryz.prog 75 #[FV D p c,.agg #[.string (S q6.num),.string (S (q6.den:Int)),.slice (some ⟨g,0,none⟩) 2 2,.string (S q0.num),.string (S (q0.den:Int))]] W (BoolOk true W)) (SM:∀ (W:World) (p:Option Addr) (c:Nat) (g:Nat),TAt 62 W p M.t→Row W g (.cells #[.int .i64 1,.string (S q24.num),.string (S (q24.den:Int)),.int .i64 2,.string (S q2.num),.string (S (q2.den:Int))] 62)→Calls Tryz.prog 75 #[FV M p c,.agg #[.string (S q40.num),.string (S (q40.den:Int)),.slice (some ⟨g,0,none⟩) 2 2,.string (S q3.num),.string (S (q3.den:Int))]] W (BoolOk true W)) (SJ:∀ (W:World) (p:Option Addr) (c:Nat) (g:Nat),TAt 62 W p J.t→Row W g (.cells #[.int .i64 1,.string (S qs.num),.string (S (qs.den:Int))] 62)→Calls Tryz.prog 75 #[FV J p c,.agg #[.string (S q14.num),.string (S (q14.den:Int)),.slice (some ⟨g,0,none⟩) 1 1,.string (S q112.num),.string (S (q112.den:Int))]] W (BoolOk true W)) (VA:∀ (W:World) (p:Option Addr) (c:Nat),TAt 62 W p A.t→Env W→Calls Tryz.prog 34 #[FV A p c] W (BoolOk true W)) (VZ:∀ (W:World),Env W→Calls Tryz.prog 34 #[.agg #[.string ⟨#[]⟩,.string ⟨#[]⟩,.slice none 0 0,.string ⟨#[]⟩,.string ⟨#[]⟩]] W (BoolOk false W)) (w:World) (he:Env w):Calls Tryz.prog 24 #[] w (BoolOk true w):=by
 have hB:Below w.heap.size w w:=Below.refl _ _
 have HE:=Lib.hid (show True from trivial)
 unfold RatioIs QIs Q at *
 unfold ExIs at EX
 unfold IvQ at AR AA
 unfold CovRes Q at CV
 unfold ConstZ at K4 K0 K2
 unfold BoolOk at SN SZ SD SM SJ VA VZ
 unfold BoolOk
 unfold FRes at SB SA MM IV SR
 unfold FV at *
 go_enter Tryz.func24, Tryz.ntmps24
 go_wp2_with fail
 refine (EX _).mono ?_
 rintro e W1 ⟨pa,pb,ca,cb,hA,hBt,rfl,h1⟩
 have stp:=St0 hB h1;clear hB h1
 have hB:=stp;clear stp
 go_wp2_with fail
 have sB:=hB.size
 refine world_cut (fun X=>Below w.heap.size w X∧Row X W1.heap.size (.cells #[.string (S A.c.num),.string (S (A.c.den:Int)),.slice pa A.t.length ca,.string (S A.r.num),.string (S (A.r.den:Int))] 58)∧Row X (W1.heap.size+1) (.cells #[.string (S B.c.num),.string (S (B.c.den:Int)),.slice pb B.t.length cb,.string (S B.r.num),.string (S (B.r.den:Int))] 58)∧TAt 62 X pa A.t∧TAt 62 X pb B.t) ⟨BW,RW8,RW8,TW,TW⟩ ?_
 clear hB sB hA hBt
 rintro V2 ⟨hB,ra,rb,hA,hBt⟩
 have sa:=RF5 ra
 have sb:=RF5 rb
 refine (AR _ _ _ hA (he.below hB)).mono ?_
 rintro e W3 ⟨rfl,h1⟩
 replace hA:=UAt.below hA h1
 replace hBt:=UAt.below hBt h1
 have stp:=St2 hB h1 ra rb;clear hB h1 ra sa rb sb
 obtain ⟨hB,ra,rb⟩:=stp
 have sa:=RF5 ra
 have sb:=RF5 rb
 go_wp2_with fail
 have sB:=hB.size
 refine wp_cut (fun X=>Below w.heap.size w X∧Row X W1.heap.size (.cells #[.string (S A.c.num),.string (S (A.c.den:Int)),.slice pa A.t.length ca,.string (S A.r.num),.string (S (A.r.den:Int))] 58)∧Row X (W1.heap.size+1) (.cells #[.string (S B.c.num),.string (S (B.c.den:Int)),.slice pb B.t.length cb,.string (S B.r.num),.string (S (B.r.den:Int))] 58)∧Row X W3.heap.size (.cells #[.string (S x1.num),.string (S (x1.den:Int)),.string (S x2.num),.string (S (x2.den:Int))] 30)∧TAt 62 X pa A.t∧TAt 62 X pb B.t) ⟨BW,RW8,RW8,RW8,TW,TW⟩ ?_
 clear ra
 clear sa
 clear rb
 clear sb
 clear hB sB hA hBt
 rintro V4 ⟨hB,ra,rb,rr,hA,hBt⟩
 have sa:=RF5 ra
 have sb:=RF5 rb
 have sr:=RF4 rr
 have da_s:=ra.1
 have db_s:=rb.1
 have dr_s:=rr.1
 have d0_s:=hB.size
 refine wp_region_late 9 [7] [.val (.agg #[.string (S A.c.num),.string (S (A.c.den:Int)),.slice pa A.t.length ca,.string (S A.r.num),.string (S (A.r.den:Int))]),.val (.agg #[.string (S q1.num),.string (S (q1.den:Int))]),.val (.agg #[.int .i64 1,.string (S q1.num),.string (S (q1.den:Int))]),.say (SayNew 1 62 #[.int .i64 1,.string (S q1.num),.string (S (q1.den:Int))]),.val (.tuple #[.agg #[.string (S y1.num),.string (S (y1.den:Int)),.string (S x2.num),.string (S (x2.den:Int))],.int .i64 0]),.val (.tuple #[.agg #[.string (S y1.num),.string (S (y1.den:Int)),.string (S x2.num),.string (S (x2.den:Int))],.int .i64 0]),.val (.agg #[.string (S y1.num),.string (S (y1.den:Int)),.string (S x2.num),.string (S (x2.den:Int))]),.val (.int .i64 0),.say (fresh _ (.cells #[.string ⟨#[]⟩,.string ⟨#[]⟩,.string ⟨#[]⟩,.string ⟨#[]⟩] 30))] [5] (by kernel_rfl) (by kernel_rfl) (by kernel_rfl) rfl ⟨SayNew.mono _ _ _,⟨fresh_mono _ _,trivial⟩⟩ (allItems.cons (qi1 fun X h=>RF5 (Row.below ra h)) (allItems.cons (qi2 fun X h=>Rq1 X) (allItems.cons qi0 (allItems.cons qin (allItems.cons (qId8 (by intro ρ X qX qc qg qf qt qd;simp [depsSay,itemSp,QItem.sp,Region.binds] at qd;obtain ⟨e1,⟨g,e2,rg⟩,e3⟩:=qd;simp [Region.wanted,yieldedBy,quietly,QItem.sp,execOp,go_sem,foreign,qc,qt,qf,e1,e2];refine ⟨Below.refl _ _,(AA X _ _ _ (UAt.below hA qX) rg (he.below (hB.trans (qX.mono hB.size)))).mono ?_⟩;rintro e Y ⟨rfl,h1⟩;exact ⟨_,rfl,rfl,h1⟩)) (allItems.cons qi0 (allItems.cons qi0 (allItems.cons qi0 (allItems.cons qia trivial))))))))) ?_
 rintro W h1
 replace hA:=UAt.below hA h1
 replace hBt:=UAt.below hBt h1
 have stp:=St3 hB h1 ra rb rr;clear hB h1 ra sa rb sb rr sr
 obtain ⟨hB,ra,rb,rr⟩:=stp
 have sa:=RF5 ra
 have sb:=RF5 rb
 have sr:=RF4 rr
 simp only [setItems,List.setIfInBounds_toArray,List.set_cons_succ,List.set_cons_zero,List.take_succ_cons,List.take_zero,List.drop_succ_cons,List.drop_zero]
 rintro _ ⟨g1,rfl,_⟩
 rintro _ ⟨ps,rfl,hs,rs⟩
 replace da_s:=Nat.lt_of_lt_of_le da_s hs
 replace db_s:=Nat.lt_of_lt_of_le db_s hs
 replace dr_s:=Nat.lt_of_lt_of_le dr_s hs
 replace d0_s:=Nat.le_trans d0_s hs
 have ss:=RFz4 rs
 intro _
 go_wp2_with fail
 unfold normalQ
 go_wp2_with fail
 have sB:=hB.size
 refine world_cut (fun X=>Below w.heap.size w X∧Row X W1.heap.size (.cells #[.string (S A.c.num),.string (S (A.c.den:Int)),.slice pa A.t.length ca,.string (S A.r.num),.string (S (A.r.den:Int))] 58)∧Row X (W1.heap.size+1) (.cells #[.string (S B.c.num),.string (S (B.c.den:Int)),.slice pb B.t.length cb,.string (S B.r.num),.string (S (B.r.den:Int))] 58)∧Row X W3.heap.size (.cells #[.string (S x1.num),.string (S (x1.den:Int)),.string (S x2.num),.string (S (x2.den:Int))] 30)∧Row X ps (.cells #[.string (S y1.num),.string (S (y1.den:Int)),.string (S x2.num),.string (S (x2.den:Int))] 30)∧TAt 62 X pa A.t∧TAt 62 X pb B.t) ⟨BW,RW8,RW8,RW8,RW8,TW,TW⟩ ?_
 clear ra
 clear sa
 clear rb
 clear sb
 clear rr
 clear sr
 clear rs
 clear ss
 clear hB sB hA hBt
 rintro V5 ⟨hB,ra,rb,rr,rs,hA,hBt⟩
 have sa:=RF5 ra
 have sb:=RF5 rb
 have sr:=RF4 rr
 have ss:=RFz4 rs
 refine (SB _ _ _ _ _ hA hBt (he.below hB)).mono ?_
 rintro e W6 ⟨pd,cd,hD,rfl,h1⟩
 replace hA:=UAt.below hA h1
 replace hBt:=UAt.below hBt h1
 have stp:=St4 hB h1 ra rb rr rs;clear hB h1 ra sa rb sb rr sr rs ss
 obtain ⟨hB,ra,rb,rr,rs⟩:=stp
 have sa:=RF5 ra
 have sb:=RF5 rb
 have sr:=RF4 rr
 have ss:=RFz4 rs
 go_wp2_with fail
 have ds_d:ps<W6.heap.size:=by omega
 have sB:=hB.size
 refine world_cut (fun X=>Below w.heap.size w X∧Row X W1.heap.size (.cells #[.string (S A.c.num),.string (S (A.c.den:Int)),.slice pa A.t.length ca,.string (S A.r.num),.string (S (A.r.den:Int))] 58)∧Row X (W1.heap.size+1) (.cells #[.string (S B.c.num),.string (S (B.c.den:Int)),.slice pb B.t.length cb,.string (S B.r.num),.string (S (B.r.den:Int))] 58)∧Row X W3.heap.size (.cells #[.string (S x1.num),.string (S (x1.den:Int)),.string (S x2.num),.string (S (x2.den:Int))] 30)∧Row X ps (.cells #[.string (S y1.num),.string (S (y1.den:Int)),.string (S x2.num),.string (S (x2.den:Int))] 30)∧Row X W6.heap.size (.cells #[.string (S D.c.num),.string (S (D.c.den:Int)),.slice pd D.t.length cd,.string (S D.r.num),.string (S (D.r.den:Int))] 58)∧TAt 62 X pa A.t∧TAt 62 X pb B.t∧TAt 62 X pd D.t) ⟨BW,RW8,RW8,RW8,RW8,RW8,TW,TW,TW⟩ ?_
 clear ra
 clear sa
 clear rb
 clear sb
 clear rr
 clear sr
 clear rs
 clear ss
 clear hB sB hA hBt hD
 rintro V7 ⟨hB,ra,rb,rr,rs,rd,hA,hBt,hD⟩
 have sa:=RF5 ra
 have sb:=RF5 rb
 have sr:=RF4 rr
 have ss:=RFz4 rs
 have sd:=RF5 rd
 refine (SA _ _ _ _ _ hA hA (he.below hB)).mono ?_
 rintro e W8 ⟨pn,cn,hN,rfl,h1⟩
 replace hA:=UAt.below hA h1
 replace hBt:=UAt.below hBt h1
 replace hD:=UAt.below hD h1
 have stp:=St5 hB h1 ra rb rr rs rd;clear hB h1 ra sa rb sb rr sr rs ss rd sd
 obtain ⟨hB,ra,rb,rr,rs,rd⟩:=stp
 have sa:=RF5 ra
 have sb:=RF5 rb
 have sr:=RF4 rr
 have ss:=RFz4 rs
 have sd:=RF5 rd
 go_wp2_with fail
 have ds_n:ps<W8.heap.size:=by omega
 have sB:=hB.size
 refine world_cut (fun X=>Below w.heap.size w X∧Row X W1.heap.size (.cells #[.string (S A.c.num),.string (S (A.c.den:Int)),.slice pa A.t.length ca,.string (S A.r.num),.string (S (A.r.den:Int))] 58)∧Row X (W1.heap.size+1) (.cells #[.string (S B.c.num),.string (S (B.c.den:Int)),.slice pb B.t.length cb,.string (S B.r.num),.string (S (B.r.den:Int))] 58)∧Row X W3.heap.size (.cells #[.string (S x1.num),.string (S (x1.den:Int)),.string (S x2.num),.string (S (x2.den:Int))] 30)∧Row X ps (.cells #[.string (S y1.num),.string (S (y1.den:Int)),.string (S x2.num),.string (S (x2.den:Int))] 30)∧Row X W6.heap.size (.cells #[.string (S D.c.num),.string (S (D.c.den:Int)),.slice pd D.t.length cd,.string (S D.r.num),.string (S (D.r.den:Int))] 58)∧Row X W8.heap.size (.cells #[.string (S N.c.num),.string (S (N.c.den:Int)),.slice pn N.t.length cn,.string (S N.r.num),.string (S (N.r.den:Int))] 58)∧TAt 62 X pa A.t∧TAt 62 X pb B.t∧TAt 62 X pd D.t∧TAt 62 X pn N.t) ⟨BW,RW8,RW8,RW8,RW8,RW8,RW8,TW,TW,TW,TW⟩ ?_
 clear ra
 clear sa
 clear rb
 clear sb
 clear rr
 clear sr
 clear rs
 clear ss
 clear rd
 clear sd
 clear hB sB hA hBt hD hN
 rintro V9 ⟨hB,ra,rb,rr,rs,rd,rn,hA,hBt,hD,hN⟩
 have sa:=RF5 ra
 have sb:=RF5 rb
 have sr:=RF4 rr
 have ss:=RFz4 rs
 have sd:=RF5 rd
 have sn:=RF5 rn
 refine (MM _ _ _ _ _ hA hBt (he.below hB)).mono ?_
 rintro e W10 ⟨pm,cm,hM,rfl,h1⟩
 replace hA:=UAt.below hA h1
 replace hBt:=UAt.below hBt h1
 replace hD:=UAt.below hD h1
 replace hN:=UAt.below hN h1
 have stp:=St6 hB h1 ra rb rr rs rd rn;clear hB h1 ra sa rb sb rr sr rs ss rd sd rn sn
 obtain ⟨hB,ra,rb,rr,rs,rd,rn⟩:=stp
 have sa:=RF5 ra
 have sb:=RF5 rb
 have sr:=RF4 rr
 have ss:=RFz4 rs
 have sd:=RF5 rd
 have sn:=RF5 rn
 go_wp2_with fail
 have ds_m:ps<W10.heap.size:=by omega
 have sB:=hB.size
 refine world_cut (fun X=>Below w.heap.size w X∧Row X W1.heap.size (.cells #[.string (S A.c.num),.string (S (A.c.den:Int)),.slice pa A.t.length ca,.string (S A.r.num),.string (S (A.r.den:Int))] 58)∧Row X (W1.heap.size+1) (.cells #[.string (S B.c.num),.string (S (B.c.den:Int)),.slice pb B.t.length cb,.string (S B.r.num),.string (S (B.r.den:Int))] 58)∧Row X W3.heap.size (.cells #[.string (S x1.num),.string (S (x1.den:Int)),.string (S x2.num),.string (S (x2.den:Int))] 30)∧Row X ps (.cells #[.string (S y1.num),.string (S (y1.den:Int)),.string (S x2.num),.string (S (x2.den:Int))] 30)∧Row X W6.heap.size (.cells #[.string (S D.c.num),.string (S (D.c.den:Int)),.slice pd D.t.length cd,.string (S D.r.num),.string (S (D.r.den:Int))] 58)∧Row X W8.heap.size (.cells #[.string (S N.c.num),.string (S (N.c.den:Int)),.slice pn N.t.length cn,.string (S N.r.num),.string (S (N.r.den:Int))] 58)∧Row X W10.heap.size (.cells #[.string (S M.c.num),.string (S (M.c.den:Int)),.slice pm M.t.length cm,.string (S M.r.num),.string (S (M.r.den:Int))] 58)∧TAt 62 X pa A.t∧TAt 62 X pb B.t∧TAt 62 X pd D.t∧TAt 62 X pn N.t∧TAt 62 X pm M.t) ⟨BW,RW8,RW8,RW8,RW8,RW8,RW8,RW8,TW,TW,TW,TW,TW⟩ ?_
 clear ra
 clear sa
 clear rb
 clear sb
 clear rr
 clear sr
 clear rs
 clear ss
 clear rd
 clear sd
 clear rn
 clear sn
 clear hB sB hA hBt hD hN hM
 rintro V11 ⟨hB,ra,rb,rr,rs,rd,rn,rm,hA,hBt,hD,hN,hM⟩
 have sa:=RF5 ra
 have sb:=RF5 rb
 have sr:=RF4 rr
 have ss:=RFz4 rs
 have sd:=RF5 rd
 have sn:=RF5 rn
 have sm:=RF5 rm
 refine (IV _ _ _ hBt (he.below hB)).mono ?_
 rintro e W12 ⟨pv,cv,hJ,rfl,h1⟩
 replace hA:=UAt.below hA h1
 replace hBt:=UAt.below hBt h1
 replace hD:=UAt.below hD h1
 replace hN:=UAt.below hN h1
 replace hM:=UAt.below hM h1
 have stp:=St7 hB h1 ra rb rr rs rd rn rm;clear hB h1 ra sa rb sb rr sr rs ss rd sd rn sn rm sm
 obtain ⟨hB,ra,rb,rr,rs,rd,rn,rm⟩:=stp
 have sa:=RF5 ra
 have sb:=RF5 rb
 have sr:=RF4 rr
 have ss:=RFz4 rs
 have sd:=RF5 rd
 have sn:=RF5 rn
 have sm:=RF5 rm
 go_wp2_with fail
 have ds_v:ps<W12.heap.size:=by omega
 have sB:=hB.size
 refine wp_cut (fun X=>Below w.heap.size w X∧Row X W1.heap.size (.cells #[.string (S A.c.num),.string (S (A.c.den:Int)),.slice pa A.t.length ca,.string (S A.r.num),.string (S (A.r.den:Int))] 58)∧Row X (W1.heap.size+1) (.cells #[.string (S B.c.num),.string (S (B.c.den:Int)),.slice pb B.t.length cb,.string (S B.r.num),.string (S (B.r.den:Int))] 58)∧Row X W3.heap.size (.cells #[.string (S x1.num),.string (S (x1.den:Int)),.string (S x2.num),.string (S (x2.den:Int))] 30)∧Row X ps (.cells #[.string (S y1.num),.string (S (y1.den:Int)),.string (S x2.num),.string (S (x2.den:Int))] 30)∧Row X W6.heap.size (.cells #[.string (S D.c.num),.string (S (D.c.den:Int)),.slice pd D.t.length cd,.string (S D.r.num),.string (S (D.r.den:Int))] 58)∧Row X W8.heap.size (.cells #[.string (S N.c.num),.string (S (N.c.den:Int)),.slice pn N.t.length cn,.string (S N.r.num),.string (S (N.r.den:Int))] 58)∧Row X W10.heap.size (.cells #[.string (S M.c.num),.string (S (M.c.den:Int)),.slice pm M.t.length cm,.string (S M.r.num),.string (S (M.r.den:Int))] 58)∧Row X W12.heap.size (.cells #[.string (S J.c.num),.string (S (J.c.den:Int)),.slice pv J.t.length cv,.string (S J.r.num),.string (S (J.r.den:Int))] 58)∧TAt 62 X pa A.t∧TAt 62 X pb B.t∧TAt 62 X pd D.t∧TAt 62 X pn N.t∧TAt 62 X pm M.t∧TAt 62 X pv J.t) ⟨BW,RW8,RW8,RW8,RW8,RW8,RW8,RW8,RW8,TW,TW,TW,TW,TW,TW⟩ ?_
 clear ra
 clear sa
 clear rb
 clear sb
 clear rr
 clear sr
 clear rs
 clear ss
 clear rd
 clear sd
 clear rn
 clear sn
 clear rm
 clear sm
 clear hB sB hA hBt hD hN hM hJ
 rintro V13 ⟨hB,ra,rb,rr,rs,rd,rn,rm,rv,hA,hBt,hD,hN,hM,hJ⟩
 have sa:=RF5 ra
 have sb:=RF5 rb
 have sr:=RF4 rr
 have ss:=RFz4 rs
 have sd:=RF5 rd
 have sn:=RF5 rn
 have sm:=RF5 rm
 have sv:=RF5 rv
 have da_c:=ra.1
 have db_c:=rb.1
 have dr_c:=rr.1
 have ds_c:=rs.1
 have dd_c:=rd.1
 have dn_c:=rn.1
 have dm_c:=rm.1
 have dv_c:=rv.1
 have d0_c:=hB.size
 refine wp_region_late 12 [10] [.val (.agg #[.string (S A.c.num),.string (S (A.c.den:Int)),.slice pa A.t.length ca,.string (S A.r.num),.string (S (A.r.den:Int))]),.val (.agg #[.string (S B.c.num),.string (S (B.c.den:Int)),.slice pb B.t.length cb,.string (S B.r.num),.string (S (B.r.den:Int))]),.val (.agg #[.string (S qt.num),.string (S (qt.den:Int))]),.val (.agg #[.int .i64 1,.string (S qt.num),.string (S (qt.den:Int))]),.val (.agg #[.string (S qt.num),.string (S (qt.den:Int))]),.val (.agg #[.int .i64 2,.string (S qt.num),.string (S (qt.den:Int))]),.say (SayNew 2 70 #[.int .i64 1,.string (S qt.num),.string (S (qt.den:Int)),.int .i64 2,.string (S qt.num),.string (S (qt.den:Int))]),.val (.tuple #[.agg #[.string (S v.num),.string (S (v.den:Int))],.int .i64 0]),.val (.tuple #[.agg #[.string (S v.num),.string (S (v.den:Int))],.int .i64 0]),.val (.agg #[.string (S v.num),.string (S (v.den:Int))]),.val (.int .i64 0),.say (fresh _ (.cells #[.string ⟨#[]⟩,.string ⟨#[]⟩] 23))] [15] (by kernel_rfl) (by kernel_rfl) (by kernel_rfl) rfl ⟨SayNew.mono _ _ _,⟨fresh_mono _ _,trivial⟩⟩ (allItems.cons (qi1 fun X h=>RF5 (Row.below ra h)) (allItems.cons (qi1 fun X h=>RF5 (Row.below rb h)) (allItems.cons (qi2 fun X h=>Rqt X) (allItems.cons qi0 (allItems.cons (qi2 fun X h=>Rqt X) (allItems.cons qi0 (allItems.cons qin (allItems.cons (qId8 (by intro ρ X qX qc qg qf qt qd;simp [depsSay,itemSp,QItem.sp,Region.binds] at qd;obtain ⟨e1,e0,⟨g,e2,rg⟩,e3⟩:=qd;simp [Region.wanted,yieldedBy,quietly,QItem.sp,execOp,go_sem,foreign,qc,qt,qf,e1,e0,e2];refine ⟨Below.refl _ _,(CV X _ _ _ _ _ (UAt.below hA qX) (UAt.below hBt qX) rg (he.below (hB.trans (qX.mono hB.size)))).mono ?_⟩;rintro e Y ⟨rfl,h1⟩;exact ⟨_,rfl,rfl,h1⟩)) (allItems.cons qi0 (allItems.cons qi0 (allItems.cons qi0 (allItems.cons qia trivial)))))))))))) ?_
 rintro W h1
 replace hA:=UAt.below hA h1
 replace hBt:=UAt.below hBt h1
 replace hD:=UAt.below hD h1
 replace hN:=UAt.below hN h1
 replace hM:=UAt.below hM h1
 replace hJ:=UAt.below hJ h1
 have stp:=St8 hB h1 ra rb rr rs rd rn rm rv;clear hB h1 ra sa rb sb rr sr rs ss rd sd rn sn rm sm rv sv
 obtain ⟨hB,ra,rb,rr,rs,rd,rn,rm,rv⟩:=stp
 have sa:=RF5 ra
 have sb:=RF5 rb
 have sr:=RF4 rr
 have ss:=RFz4 rs
 have sd:=RF5 rd
 have sn:=RF5 rn
 have sm:=RF5 rm
 have sv:=RF5 rv
 simp only [setItems,List.setIfInBounds_toArray,List.set_cons_succ,List.set_cons_zero,List.take_succ_cons,List.take_zero,List.drop_succ_cons,List.drop_zero]
 rintro _ ⟨g2,rfl,_⟩
 rintro _ ⟨pc,rfl,hc,rc⟩
 replace da_c:=Nat.lt_of_lt_of_le da_c hc
 replace db_c:=Nat.lt_of_lt_of_le db_c hc
 replace dr_c:=Nat.lt_of_lt_of_le dr_c hc
 replace ds_c:=Nat.lt_of_lt_of_le ds_c hc
 replace dd_c:=Nat.lt_of_lt_of_le dd_c hc
 replace dn_c:=Nat.lt_of_lt_of_le dn_c hc
 replace dm_c:=Nat.lt_of_lt_of_le dm_c hc
 replace dv_c:=Nat.lt_of_lt_of_le dv_c hc
 replace d0_c:=Nat.le_trans d0_c hc
 have sc:=RFz2 rc
 intro _
 go_wp2_with fail
 unfold normalQ
 go_wp2_with fail
 have sB:=hB.size
 refine world_cut (fun X=>Below w.heap.size w X∧Row X W1.heap.size (.cells #[.string (S A.c.num),.string (S (A.c.den:Int)),.slice pa A.t.length ca,.string (S A.r.num),.string (S (A.r.den:Int))] 58)∧Row X (W1.heap.size+1) (.cells #[.string (S B.c.num),.string (S (B.c.den:Int)),.slice pb B.t.length cb,.string (S B.r.num),.string (S (B.r.den:Int))] 58)∧Row X W3.heap.size (.cells #[.string (S x1.num),.string (S (x1.den:Int)),.string (S x2.num),.string (S (x2.den:Int))] 30)∧Row X ps (.cells #[.string (S y1.num),.string (S (y1.den:Int)),.string (S x2.num),.string (S (x2.den:Int))] 30)∧Row X W6.heap.size (.cells #[.string (S D.c.num),.string (S (D.c.den:Int)),.slice pd D.t.length cd,.string (S D.r.num),.string (S (D.r.den:Int))] 58)∧Row X W8.heap.size (.cells #[.string (S N.c.num),.string (S (N.c.den:Int)),.slice pn N.t.length cn,.string (S N.r.num),.string (S (N.r.den:Int))] 58)∧Row X W10.heap.size (.cells #[.string (S M.c.num),.string (S (M.c.den:Int)),.slice pm M.t.length cm,.string (S M.r.num),.string (S (M.r.den:Int))] 58)∧Row X W12.heap.size (.cells #[.string (S J.c.num),.string (S (J.c.den:Int)),.slice pv J.t.length cv,.string (S J.r.num),.string (S (J.r.den:Int))] 58)∧Row X pc (.cells #[.string (S v.num),.string (S (v.den:Int))] 23)∧TAt 62 X pa A.t∧TAt 62 X pb B.t∧TAt 62 X pd D.t∧TAt 62 X pn N.t∧TAt 62 X pm M.t∧TAt 62 X pv J.t) ⟨BW,RW8,RW8,RW8,RW8,RW8,RW8,RW8,RW8,RW8,TW,TW,TW,TW,TW,TW⟩ ?_
 clear ra
 clear sa
 clear rb
 clear sb
 clear rr
 clear sr
 clear rs
 clear ss
 clear rd
 clear sd
 clear rn
 clear sn
 clear rm
 clear sm
 clear rv
 clear sv
 clear rc
 clear sc
 clear hB sB hA hBt hD hN hM hJ
 rintro V14 ⟨hB,ra,rb,rr,rs,rd,rn,rm,rv,rc,hA,hBt,hD,hN,hM,hJ⟩
 have sa:=RF5 ra
 have sb:=RF5 rb
 have sr:=RF4 rr
 have ss:=RFz4 rs
 have sd:=RF5 rd
 have sn:=RF5 rn
 have sm:=RF5 rm
 have sv:=RF5 rv
 have sc:=RFz2 rc
 refine (Rq4 _).mono ?_
 rintro e W15 ⟨rfl,h1⟩
 clear sa
 clear sb
 clear sr
 clear ss
 clear sd
 clear sn
 clear sm
 clear sv
 clear sc
 replace hB:=hB.trans (h1.mono hB.size)
 replace ra:=Row.below ra h1
 replace rb:=Row.below rb h1
 replace rr:=Row.below rr h1
 replace rs:=Row.below rs h1
 replace rd:=Row.below rd h1
 replace rn:=Row.below rn h1
 replace rm:=Row.below rm h1
 replace rv:=Row.below rv h1
 replace rc:=Row.below rc h1
 replace hA:=UAt.below hA h1
 replace hBt:=UAt.below hBt h1
 replace hD:=UAt.below hD h1
 replace hN:=UAt.below hN h1
 replace hM:=UAt.below hM h1
 replace hJ:=UAt.below hJ h1
 clear h1
 have sa:=RF5 ra
 have sb:=RF5 rb
 have sr:=RF4 rr
 have ss:=RFz4 rs
 have sd:=RF5 rd
 have sn:=RF5 rn
 have sm:=RF5 rm
 have sv:=RF5 rv
 have sc:=RFz2 rc
 go_wp2_with fail
 refine (K4 _ (he.below hB)).mono ?_
 rintro e W16 ⟨rfl,h1⟩
 clear sa
 clear sb
 clear sr
 clear ss
 clear sd
 clear sn
 clear sm
 clear sv
 clear sc
 replace hB:=hB.trans (h1.mono hB.size)
 replace ra:=Row.below ra h1
 replace rb:=Row.below rb h1
 replace rr:=Row.below rr h1
 replace rs:=Row.below rs h1
 replace rd:=Row.below rd h1
 replace rn:=Row.below rn h1
 replace rm:=Row.below rm h1
 replace rv:=Row.below rv h1
 replace rc:=Row.below rc h1
 replace hA:=UAt.below hA h1
 replace hBt:=UAt.below hBt h1
 replace hD:=UAt.below hD h1
 replace hN:=UAt.below hN h1
 replace hM:=UAt.below hM h1
 replace hJ:=UAt.below hJ h1
 clear h1
 have sa:=RF5 ra
 have sb:=RF5 rb
 have sr:=RF4 rr
 have ss:=RFz4 rs
 have sd:=RF5 rd
 have sn:=RF5 rn
 have sm:=RF5 rm
 have sv:=RF5 rv
 have sc:=RFz2 rc
 go_wp2_with fail
 refine (SR _ (he.below hB)).mono ?_
 rintro e W17 ⟨pz,cz,hZ,rfl,h1⟩
 clear sa
 clear sb
 clear sr
 clear ss
 clear sd
 clear sn
 clear sm
 clear sv
 clear sc
 replace hB:=hB.trans (h1.mono hB.size)
 replace ra:=Row.below ra h1
 replace rb:=Row.below rb h1
 replace rr:=Row.below rr h1
 replace rs:=Row.below rs h1
 replace rd:=Row.below rd h1
 replace rn:=Row.below rn h1
 replace rm:=Row.below rm h1
 replace rv:=Row.below rv h1
 replace rc:=Row.below rc h1
 replace hA:=UAt.below hA h1
 replace hBt:=UAt.below hBt h1
 replace hD:=UAt.below hD h1
 replace hN:=UAt.below hN h1
 replace hM:=UAt.below hM h1
 replace hJ:=UAt.below hJ h1
 clear h1
 have sa:=RF5 ra
 have sb:=RF5 rb
 have sr:=RF4 rr
 have ss:=RFz4 rs
 have sd:=RF5 rd
 have sn:=RF5 rn
 have sm:=RF5 rm
 have sv:=RF5 rv
 have sc:=RFz2 rc
 go_wp2_with fail
 have ds_q:ps<W17.heap.size:=by omega
 have dc_q:pc<W17.heap.size:=by omega
 have sB:=hB.size
 refine wp_cut (fun X=>Below w.heap.size w X∧Row X W1.heap.size (.cells #[.string (S A.c.num),.string (S (A.c.den:Int)),.slice pa A.t.length ca,.string (S A.r.num),.string (S (A.r.den:Int))] 58)∧Row X (W1.heap.size+1) (.cells #[.string (S B.c.num),.string (S (B.c.den:Int)),.slice pb B.t.length cb,.string (S B.r.num),.string (S (B.r.den:Int))] 58)∧Row X W3.heap.size (.cells #[.string (S x1.num),.string (S (x1.den:Int)),.string (S x2.num),.string (S (x2.den:Int))] 30)∧Row X ps (.cells #[.string (S y1.num),.string (S (y1.den:Int)),.string (S x2.num),.string (S (x2.den:Int))] 30)∧Row X W6.heap.size (.cells #[.string (S D.c.num),.string (S (D.c.den:Int)),.slice pd D.t.length cd,.string (S D.r.num),.string (S (D.r.den:Int))] 58)∧Row X W8.heap.size (.cells #[.string (S N.c.num),.string (S (N.c.den:Int)),.slice pn N.t.length cn,.string (S N.r.num),.string (S (N.r.den:Int))] 58)∧Row X W10.heap.size (.cells #[.string (S M.c.num),.string (S (M.c.den:Int)),.slice pm M.t.length cm,.string (S M.r.num),.string (S (M.r.den:Int))] 58)∧Row X W12.heap.size (.cells #[.string (S J.c.num),.string (S (J.c.den:Int)),.slice pv J.t.length cv,.string (S J.r.num),.string (S (J.r.den:Int))] 58)∧Row X pc (.cells #[.string (S v.num),.string (S (v.den:Int))] 23)∧Row X W17.heap.size (.cells #[.string (S Z.c.num),.string (S (Z.c.den:Int)),.slice pz Z.t.length cz,.string (S Z.r.num),.string (S (Z.r.den:Int))] 58)∧TAt 62 X pa A.t∧TAt 62 X pb B.t∧TAt 62 X pd D.t∧TAt 62 X pn N.t∧TAt 62 X pm M.t∧TAt 62 X pv J.t∧TAt 62 X pz Z.t) ⟨BW,RW8,RW8,RW8,RW8,RW8,RW8,RW8,RW8,RW8,RW8,TW,TW,TW,TW,TW,TW,TW⟩ ?_
 clear ra
 clear sa
 clear rb
 clear sb
 clear rr
 clear sr
 clear rs
 clear ss
 clear rd
 clear sd
 clear rn
 clear sn
 clear rm
 clear sm
 clear rv
 clear sv
 clear rc
 clear sc
 clear hB sB hA hBt hD hN hM hJ hZ
 rintro V18 ⟨hB,ra,rb,rr,rs,rd,rn,rm,rv,rc,rq,hA,hBt,hD,hN,hM,hJ,hZ⟩
 have sa:=RF5 ra
 have sb:=RF5 rb
 have sr:=RF4 rr
 have ss:=RFz4 rs
 have sd:=RF5 rd
 have sn:=RF5 rn
 have sm:=RF5 rm
 have sv:=RF5 rv
 have sc:=RFz2 rc
 have sq:=RF5 rq
 refine wp_region_vals [.agg #[.string (S x1.num),.string (S (x1.den:Int)),.string (S x2.num),.string (S (x2.den:Int))],.agg #[.string (S x1.num),.string (S (x1.den:Int))],.agg #[.string (S x2.num),.string (S (x2.den:Int))],.agg #[.string (S x1.num),.string (S (x1.den:Int)),.string (S x2.num),.string (S (x2.den:Int))],.bool true,.bool true,.int .i64 0,.bool true,.bool true,.bool true,.agg #[.string (S y1.num),.string (S (y1.den:Int)),.string (S x2.num),.string (S (x2.den:Int))],.agg #[.string (S y1.num),.string (S (y1.den:Int))],.agg #[.string (S x2.num),.string (S (x2.den:Int))],.agg #[.string (S y1.num),.string (S (y1.den:Int)),.string (S x2.num),.string (S (x2.den:Int))],.bool true,.bool true,.bool true,.int .i64 0,.bool true,.bool true,.bool true,.int .i64 0,.bool true,.bool true,.bool true,.agg #[.string (S N.c.num),.string (S (N.c.den:Int)),.slice pn N.t.length cn,.string (S N.r.num),.string (S (N.r.den:Int))],.agg #[.string (S q0.num),.string (S (q0.den:Int))],.agg #[.string (S q0.num),.string (S (q0.den:Int)),.slice none 0 0,.string (S z.num),.string (S (z.den:Int))],.bool true,.bool true,.bool true,.int .i64 0,.bool true,.bool true,.bool true] (by kernel_rfl) (by kernel_rfl) rfl (allVals.cons (qv1 fun X h=>RF4 (Row.below rr h)) (allVals.cons (qv2 fun X h=>Rx1 X) (allVals.cons (qv2 fun X h=>Rx2 X) (allVals.cons qv0 (allVals.cons qv0 (allVals.cons qv0 (allVals.cons qv0 (allVals.cons qv0 (allVals.cons qv0 (allVals.cons qv0 (allVals.cons (qv1 fun X h=>RFz4 (Row.below rs h)) (allVals.cons (qv2 fun X h=>Ry1 X) (allVals.cons (qv2 fun X h=>Rx2 X) (allVals.cons qv0 (allVals.cons qv0 (allVals.cons qv0 (allVals.cons qv0 (allVals.cons qv0 (allVals.cons qv0 (allVals.cons qv0 (allVals.cons qv0 (allVals.cons qv0 (allVals.cons qv0 (allVals.cons qv0 (allVals.cons qv0 (allVals.cons (qv1 fun X h=>RF5 (Row.below rn h)) (allVals.cons (qv2 fun X h=>Rq0 X) (allVals.cons (qv2 fun X h=>K0 X (he.below (hB.trans (h.mono hB.size)))) (allVals.cons (qv2 fun X h=>SN X _ _ (UAt.below hN h)) (allVals.cons qv0 (allVals.cons qv0 (allVals.cons qv0 (allVals.cons qv0 (allVals.cons qv0 (allVals.cons qv0 trivial))))))))))))))))))))))))))))))))))) ?_
 rintro W h1
 clear sa
 clear sb
 clear sr
 clear ss
 clear sd
 clear sn
 clear sm
 clear sv
 clear sc
 clear sq
 replace hB:=hB.trans (h1.mono hB.size)
 replace ra:=Row.below ra h1
 replace rb:=Row.below rb h1
 replace rr:=Row.below rr h1
 replace rs:=Row.below rs h1
 replace rd:=Row.below rd h1
 replace rn:=Row.below rn h1
 replace rm:=Row.below rm h1
 replace rv:=Row.below rv h1
 replace rc:=Row.below rc h1
 replace rq:=Row.below rq h1
 replace hA:=UAt.below hA h1
 replace hBt:=UAt.below hBt h1
 replace hD:=UAt.below hD h1
 replace hN:=UAt.below hN h1
 replace hM:=UAt.below hM h1
 replace hJ:=UAt.below hJ h1
 replace hZ:=UAt.below hZ h1
 clear h1
 have sa:=RF5 ra
 have sb:=RF5 rb
 have sr:=RF4 rr
 have ss:=RFz4 rs
 have sd:=RF5 rd
 have sn:=RF5 rn
 have sm:=RF5 rm
 have sv:=RF5 rv
 have sc:=RFz2 rc
 have sq:=RF5 rq
 simp only [setVals,List.setIfInBounds_toArray,List.set_cons_succ,List.set_cons_zero]
 go_wp2_with fail
 refine wp_region_items 26 [.val (.agg #[.string (S D.c.num),.string (S (D.c.den:Int)),.slice pd D.t.length cd,.string (S D.r.num),.string (S (D.r.den:Int))]),.val (.agg #[.string (S q6.num),.string (S (q6.den:Int))]),.val (.agg #[.string (S qm.num),.string (S (qm.den:Int))]),.val (.agg #[.int .i64 1,.string (S qm.num),.string (S (qm.den:Int))]),.val (.agg #[.string (S qh.num),.string (S (qh.den:Int))]),.val (.agg #[.int .i64 2,.string (S qh.num),.string (S (qh.den:Int))]),.say (SayNew 2 62 #[.int .i64 1,.string (S qm.num),.string (S (qm.den:Int)),.int .i64 2,.string (S qh.num),.string (S (qh.den:Int))]),.val (.agg #[.string (S q0.num),.string (S (q0.den:Int))]),.say (SayNF q6 q0 2 62 #[.int .i64 1,.string (S qm.num),.string (S (qm.den:Int)),.int .i64 2,.string (S qh.num),.string (S (qh.den:Int))]),.val (.bool true),.val (.bool true),.val (.agg #[.string (S M.c.num),.string (S (M.c.den:Int)),.slice pm M.t.length cm,.string (S M.r.num),.string (S (M.r.den:Int))]),.val (.agg #[.string (S q40.num),.string (S (q40.den:Int))]),.val (.agg #[.string (S q24.num),.string (S (q24.den:Int))]),.val (.agg #[.int .i64 1,.string (S q24.num),.string (S (q24.den:Int))]),.val (.agg #[.string (S q2.num),.string (S (q2.den:Int))]),.val (.agg #[.int .i64 2,.string (S q2.num),.string (S (q2.den:Int))]),.say (SayNew 2 62 #[.int .i64 1,.string (S q24.num),.string (S (q24.den:Int)),.int .i64 2,.string (S q2.num),.string (S (q2.den:Int))]),.val (.agg #[.string (S q3.num),.string (S (q3.den:Int))]),.say (SayNF q40 q3 2 62 #[.int .i64 1,.string (S q24.num),.string (S (q24.den:Int)),.int .i64 2,.string (S q2.num),.string (S (q2.den:Int))]),.val (.bool true),.val (.bool true),.val (.bool true),.val (.int .i64 0),.val (.bool true),.val (.bool true)] (by kernel_rfl) (by kernel_rfl) ⟨SayNew.mono _ _ _,⟨SayNF.mono _ _ _ _ _,⟨SayNew.mono _ _ _,⟨SayNF.mono _ _ _ _ _,trivial⟩⟩⟩⟩ (allItems.cons (qi1 fun X h=>RF5 (Row.below rd h)) (allItems.cons (qi2 fun X h=>Rq6 X) (allItems.cons (qi2 fun X h=>Rqm X) (allItems.cons qi0 (allItems.cons (qi2 fun X h=>Rqh X) (allItems.cons qi0 (allItems.cons qin (allItems.cons (qi2 fun X h=>Rq0 X) (allItems.cons (qId8 (by intro ρ X qX qc qg qf qt qd;simp [depsSay,itemSp,QItem.sp,Region.binds] at qd;obtain ⟨e1,⟨g,e2,rg⟩,e3⟩:=qd;simp [Region.wanted,yieldedBy,quietly,QItem.sp,execOp,go_sem,foreign,qc,qt,qf,Below.refl,e1,e2,e3];exact ⟨g,rfl,rg⟩)) (allItems.cons (qId8 (by intro ρ X qX qc qg qf qt qd;simp [depsSay,itemSp,QItem.sp,Region.binds] at qd;obtain ⟨e1,⟨g,e2,rg⟩,e3⟩:=qd;simp [Region.wanted,yieldedBy,quietly,QItem.sp,execOp,go_sem,foreign,qc,qt,qf,e1,e2];refine ⟨Below.refl _ _,(SD X _ _ _ (UAt.below hD qX) rg).mono ?_⟩;rintro e Y ⟨rfl,h1⟩;exact ⟨_,rfl,rfl,h1⟩)) (allItems.cons qi0 (allItems.cons (qi1 fun X h=>RF5 (Row.below rm h)) (allItems.cons (qi2 fun X h=>Rq40 X) (allItems.cons (qi2 fun X h=>Rq24 X) (allItems.cons qi0 (allItems.cons (qi2 fun X h=>Rq2 X) (allItems.cons qi0 (allItems.cons qin (allItems.cons (qi2 fun X h=>Rq3 X) (allItems.cons (qId8 (by intro ρ X qX qc qg qf qt qd;simp [depsSay,itemSp,QItem.sp,Region.binds] at qd;obtain ⟨e1,⟨g,e2,rg⟩,e3,e4⟩:=qd;simp [Region.wanted,yieldedBy,quietly,QItem.sp,execOp,go_sem,foreign,qc,qt,qf,Below.refl,e1,e2,e3,e4];exact ⟨g,rfl,rg⟩)) (allItems.cons (qId8 (by intro ρ X qX qc qg qf qt qd;simp [depsSay,itemSp,QItem.sp,Region.binds] at qd;obtain ⟨e1,⟨g,e2,rg⟩,e3,e4⟩:=qd;simp [Region.wanted,yieldedBy,quietly,QItem.sp,execOp,go_sem,foreign,qc,qt,qf,e1,e2,e3,e4];refine ⟨Below.refl _ _,(SM X _ _ _ (UAt.below hM qX) rg).mono ?_⟩;rintro e Y ⟨rfl,h1⟩;exact ⟨_,rfl,rfl,h1⟩)) (allItems.cons qi0 (allItems.cons qi0 (allItems.cons qi0 (allItems.cons qi0 (allItems.cons qi0 trivial)))))))))))))))))))))))))) ?_
 rintro W h1
 clear sa
 clear sb
 clear sr
 clear ss
 clear sd
 clear sn
 clear sm
 clear sv
 clear sc
 clear sq
 replace hB:=hB.trans (h1.mono hB.size)
 replace ra:=Row.below ra h1
 replace rb:=Row.below rb h1
 replace rr:=Row.below rr h1
 replace rs:=Row.below rs h1
 replace rd:=Row.below rd h1
 replace rn:=Row.below rn h1
 replace rm:=Row.below rm h1
 replace rv:=Row.below rv h1
 replace rc:=Row.below rc h1
 replace rq:=Row.below rq h1
 replace hA:=UAt.below hA h1
 replace hBt:=UAt.below hBt h1
 replace hD:=UAt.below hD h1
 replace hN:=UAt.below hN h1
 replace hM:=UAt.below hM h1
 replace hJ:=UAt.below hJ h1
 replace hZ:=UAt.below hZ h1
 clear h1
 have sa:=RF5 ra
 have sb:=RF5 rb
 have sr:=RF4 rr
 have ss:=RFz4 rs
 have sd:=RF5 rd
 have sn:=RF5 rn
 have sm:=RF5 rm
 have sv:=RF5 rv
 have sc:=RFz2 rc
 have sq:=RF5 rq
 simp only [setItems,List.setIfInBounds_toArray,List.set_cons_succ,List.set_cons_zero,List.take_succ_cons,List.take_zero,List.drop_succ_cons,List.drop_zero]
 rintro _ ⟨g3,rfl,_⟩
 rintro _ ⟨g4,rfl,_⟩
 rintro _ ⟨g5,rfl,_⟩
 rintro _ ⟨g6,rfl,_⟩
 go_wp2_with fail
 refine wp_region_items 31 [.val (.agg #[.string (S J.c.num),.string (S (J.c.den:Int)),.slice pv J.t.length cv,.string (S J.r.num),.string (S (J.r.den:Int))]),.val (.agg #[.string (S q14.num),.string (S (q14.den:Int))]),.val (.agg #[.string (S qs.num),.string (S (qs.den:Int))]),.val (.agg #[.int .i64 1,.string (S qs.num),.string (S (qs.den:Int))]),.say (SayNew 1 62 #[.int .i64 1,.string (S qs.num),.string (S (qs.den:Int))]),.val (.agg #[.string (S q112.num),.string (S (q112.den:Int))]),.say (SayNF q14 q112 1 62 #[.int .i64 1,.string (S qs.num),.string (S (qs.den:Int))]),.val (.bool true),.val (.bool true),.val (.int .i64 0),.val (.bool true),.val (.bool true),.val (.bool true),.val (.agg #[.string (S v.num),.string (S (v.den:Int))]),.val (.agg #[.string (S v.num),.string (S (v.den:Int))]),.val (.bool true),.val (.bool true),.val (.bool true),.val (.int .i64 0),.val (.bool true),.val (.bool true),.val (.bool true),.val (.agg #[.string (S Z.c.num),.string (S (Z.c.den:Int)),.slice pz Z.t.length cz,.string (S Z.r.num),.string (S (Z.r.den:Int))]),.val (.agg #[.string (S q2.num),.string (S (q2.den:Int))]),.val (.agg #[.string (S q2.num),.string (S (q2.den:Int)),.slice none 0 0,.string (S z.num),.string (S (z.den:Int))]),.val (.bool true),.val (.bool true),.val (.bool true),.val (.int .i64 0),.val (.bool true),.val (.bool true)] (by kernel_rfl) (by kernel_rfl) ⟨SayNew.mono _ _ _,⟨SayNF.mono _ _ _ _ _,trivial⟩⟩ (allItems.cons (qi1 fun X h=>RF5 (Row.below rv h)) (allItems.cons (qi2 fun X h=>Rq14 X) (allItems.cons (qi2 fun X h=>Rqs X) (allItems.cons qi0 (allItems.cons qin (allItems.cons (qi2 fun X h=>Rq112 X) (allItems.cons (qId8 (by intro ρ X qX qc qg qf qt qd;simp [depsSay,itemSp,QItem.sp,Region.binds] at qd;obtain ⟨e1,⟨g,e2,rg⟩,e3⟩:=qd;simp [Region.wanted,yieldedBy,quietly,QItem.sp,execOp,go_sem,foreign,qc,qt,qf,Below.refl,e1,e2,e3];exact ⟨g,rfl,rg⟩)) (allItems.cons (qId8 (by intro ρ X qX qc qg qf qt qd;simp [depsSay,itemSp,QItem.sp,Region.binds] at qd;obtain ⟨e1,⟨g,e2,rg⟩,e3⟩:=qd;simp [Region.wanted,yieldedBy,quietly,QItem.sp,execOp,go_sem,foreign,qc,qt,qf,e1,e2];refine ⟨Below.refl _ _,(SJ X _ _ _ (UAt.below hJ qX) rg).mono ?_⟩;rintro e Y ⟨rfl,h1⟩;exact ⟨_,rfl,rfl,h1⟩)) (allItems.cons qi0 (allItems.cons qi0 (allItems.cons qi0 (allItems.cons qi0 (allItems.cons qi0 (allItems.cons (qi1 fun X h=>RFz2 (Row.below rc h)) (allItems.cons (qi2 fun X h=>Rv X) (allItems.cons qi0 (allItems.cons qi0 (allItems.cons qi0 (allItems.cons qi0 (allItems.cons qi0 (allItems.cons qi0 (allItems.cons qi0 (allItems.cons (qi1 fun X h=>RF5 (Row.below rq h)) (allItems.cons (qi2 fun X h=>Rq2 X) (allItems.cons (qi2 fun X h=>K2 X (he.below (hB.trans (h.mono hB.size)))) (allItems.cons (qi2 fun X h=>SZ X _ _ (UAt.below hZ h)) (allItems.cons qi0 (allItems.cons qi0 (allItems.cons qi0 (allItems.cons qi0 (allItems.cons qi0 trivial))))))))))))))))))))))))))))))) ?_
 rintro W h1
 clear sa
 clear sb
 clear sr
 clear ss
 clear sd
 clear sn
 clear sm
 clear sv
 clear sc
 clear sq
 replace hB:=hB.trans (h1.mono hB.size)
 replace ra:=Row.below ra h1
 replace rb:=Row.below rb h1
 replace rr:=Row.below rr h1
 replace rs:=Row.below rs h1
 replace rd:=Row.below rd h1
 replace rn:=Row.below rn h1
 replace rm:=Row.below rm h1
 replace rv:=Row.below rv h1
 replace rc:=Row.below rc h1
 replace rq:=Row.below rq h1
 replace hA:=UAt.below hA h1
 replace hBt:=UAt.below hBt h1
 replace hD:=UAt.below hD h1
 replace hN:=UAt.below hN h1
 replace hM:=UAt.below hM h1
 replace hJ:=UAt.below hJ h1
 replace hZ:=UAt.below hZ h1
 clear h1
 have sa:=RF5 ra
 have sb:=RF5 rb
 have sr:=RF4 rr
 have ss:=RFz4 rs
 have sd:=RF5 rd
 have sn:=RF5 rn
 have sm:=RF5 rm
 have sv:=RF5 rv
 have sc:=RFz2 rc
 have sq:=RF5 rq
 simp only [setItems,List.setIfInBounds_toArray,List.set_cons_succ,List.set_cons_zero,List.take_succ_cons,List.take_zero,List.drop_succ_cons,List.drop_zero]
 rintro _ ⟨g7,rfl,_⟩
 rintro _ ⟨g8,rfl,_⟩
 go_wp2_with fail
 refine (VA _ _ _ hA (he.below hB)).mono ?_
 rintro e W19 ⟨rfl,h1⟩
 clear sa
 clear sb
 clear sr
 clear ss
 clear sd
 clear sn
 clear sm
 clear sv
 clear sc
 clear sq
 replace hB:=hB.trans (h1.mono hB.size)
 replace ra:=Row.below ra h1
 replace rb:=Row.below rb h1
 replace rr:=Row.below rr h1
 replace rs:=Row.below rs h1
 replace rd:=Row.below rd h1
 replace rn:=Row.below rn h1
 replace rm:=Row.below rm h1
 replace rv:=Row.below rv h1
 replace rc:=Row.below rc h1
 replace rq:=Row.below rq h1
 replace hA:=UAt.below hA h1
 replace hBt:=UAt.below hBt h1
 replace hD:=UAt.below hD h1
 replace hN:=UAt.below hN h1
 replace hM:=UAt.below hM h1
 replace hJ:=UAt.below hJ h1
 replace hZ:=UAt.below hZ h1
 clear h1
 have sa:=RF5 ra
 have sb:=RF5 rb
 have sr:=RF4 rr
 have ss:=RFz4 rs
 have sd:=RF5 rd
 have sn:=RF5 rn
 have sm:=RF5 rm
 have sv:=RF5 rv
 have sc:=RFz2 rc
 have sq:=RF5 rq
 go_wp2_with fail
 refine (VZ _ (he.below hB)).mono ?_
 rintro e W20 ⟨rfl,h1⟩
 clear sa
 clear sb
 clear sr
 clear ss
 clear sd
 clear sn
 clear sm
 clear sv
 clear sc
 clear sq
 replace hB:=hB.trans (h1.mono hB.size)
 replace ra:=Row.below ra h1
 replace rb:=Row.below rb h1
 replace rr:=Row.below rr h1
 replace rs:=Row.below rs h1
 replace rd:=Row.below rd h1
 replace rn:=Row.below rn h1
 replace rm:=Row.below rm h1
 replace rv:=Row.below rv h1
 replace rc:=Row.below rc h1
 replace rq:=Row.below rq h1
 replace hA:=UAt.below hA h1
 replace hBt:=UAt.below hBt h1
 replace hD:=UAt.below hD h1
 replace hN:=UAt.below hN h1
 replace hM:=UAt.below hM h1
 replace hJ:=UAt.below hJ h1
 replace hZ:=UAt.below hZ h1
 clear h1
 have sa:=RF5 ra
 have sb:=RF5 rb
 have sr:=RF4 rr
 have ss:=RFz4 rs
 have sd:=RF5 rd
 have sn:=RF5 rn
 have sm:=RF5 rm
 have sv:=RF5 rv
 have sc:=RFz2 rc
 have sq:=RF5 rq
 go_wp2
 go_ret
 exact ⟨rfl,hB⟩
end Go.Proofs.YtnokpldomlmamaaGreatDoor
