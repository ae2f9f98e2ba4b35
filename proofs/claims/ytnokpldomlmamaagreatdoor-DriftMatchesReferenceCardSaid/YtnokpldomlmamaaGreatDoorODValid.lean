/-
 The small functions of drift: fractions of two machine integers, short fractions, how far a value gets, gaps. Package enclosure: Valid, Contains, Within; that all intervals of a slice are valid. drift.Valid: of valid histories, and of the empty one.
-/
import Derived.Test.YtnokpldomlmamaaGreatDoorOEnv12
import Derived.Test.YtnokpldomlmamaaGreatDoorOTail
set_option linter.unusedSimpArgs false
set_option linter.unusedVariables false
set_option maxRecDepth 100000
set_option maxHeartbeats 16000000
namespace Go.Proofs.YtnokpldomlmamaaGreatDoor
open Go Go.RowKit Go.Lib Go.Shelf
theorem fromIntS' {n:Int} (h:IsInt n) (w:World) (he:Env w):Calls Tryz.prog 187 #[.int .i64 n] w (FromOk n w):=fromInt_any n h.1 h.2 w he.tab
theorem qdig_of {n d:Int} {k:Nat} (h:0<d) (hn:n.natAbs<10 ^ k) (hd:d.natAbs<10 ^ k):QDig k (Rat.divInt n d):=QDig.ofInt h hn hd
theorem isInt_fits {n:Int} (h:IsInt n):Fits n:=by
 unfold Fits
 have h1:n.natAbs<10 ^ 19:=by have:=h.1;have:=h.2;omega
 exact Nat.lt_of_lt_of_le h1 (Nat.pow_le_pow_right (by decide) (by decide))
theorem qof {n d:Int} (hn:IsInt n) (hd:IsInt d) (hd0:0<d) (w:World) (he:Env w):Calls Tryz.prog 127 #[.int .i64 n,.int .i64 d] w (QOk (Rat.divInt n d) w):=by
 have hB:Below w.heap.size w w:=Below.refl _ _
 have MN:=fun W (h:Env W)=>fromIntS' hn W h
 have MD:=fun W (h:Env W)=>fromIntS' hd W h
 have MK:=fun W (h:Env W)=>qmake (is_S n) (is_S d) (isInt_fits hn) (isInt_fits hd) (by omega) W h
 unfold FromOk at MN MD
 unfold QOk Q at MK
 unfold QOk Q
 generalize Rat.divInt n d=q at *
 generalize S n=sn at *
 generalize S d=sd at *
 clear hd0
 go_enter Tryz.func127, Tryz.ntmps127
 go_wp2_with fail
 have d0_o:w.heap.size≤w.heap.size:=by have:=hB.size;omega
 have sB:=hB.size
 refine world_cut (fun X=>Below w.heap.size w X∧Row X w.heap.size (.cells #[.string ⟨#[]⟩,.string ⟨#[]⟩] 23)) ⟨BW,RW⟩ ?_
 clear hB sB
 rintro V1 ⟨hB,ro⟩
 have so:=RFz2 ro
 refine (MN _ (he.below hB)).mono ?_
 rintro e W2 ⟨rfl,h1⟩
 clear so
 replace hB:=hB.trans (h1.mono hB.size)
 replace ro:=Row.below ro h1
 clear h1
 have so:=RFz2 ro
 go_wp2_with fail
 refine (MD _ (he.below hB)).mono ?_
 rintro e W3 ⟨rfl,h1⟩
 clear so
 replace hB:=hB.trans (h1.mono hB.size)
 replace ro:=Row.below ro h1
 clear h1
 have so:=RFz2 ro
 go_wp2_with fail
 refine (MK _ (he.below hB)).mono ?_
 rintro e W4 ⟨rfl,h1⟩
 clear so
 replace hB:=hB.trans (h1.mono hB.size)
 replace ro:=Row.below ro h1
 clear h1
 have so:=RFz2 ro
 go_wp2_with fail
 have sB:=hB.size
 refine post_cut (fun X=>Below w.heap.size w X∧Row X w.heap.size (.cells #[.string (S q.num),.string (S (q.den:Int))] 23)) ⟨BW,RW⟩ ?_
 clear ro
 clear so
 clear hB sB
 rintro V5 ⟨hB,ro⟩
 skip
 have so:=RFz2 ro
 refine bodyPost_ret (v := .tuple #[.agg #[.string (S q.num),.string (S (q.den:Int))],.int .i64 0]) ?res rfl ⟨rfl,hB⟩
 case res=>simp [results,Tryz.results127, go_sem,so]
theorem trimS (z:Int) (w:World):Calls Tryz.prog 147 #[.string (S z),.string { data:=#[45] }] w fun e w'=>e = .returned (.string ⟨(body (S z).data.toList).toArray⟩)∧Below w.heap.size w w' :=
 (trim_minus _ w).mono fun e w' ⟨h1,h2⟩=>⟨h1,h2 ▸ Below.refl _ _⟩
theorem body_size {z:Int} (h:Dig 40 z):(⟨(body (S z).data.toList).toArray⟩:ByteArray).size≤40:=by
 have h1:(⟨(body (S z).data.toList).toArray⟩:ByteArray).size=(body (S z).data.toList).length:=by simp [ByteArray.size]
 have h2:(S z).data.toList=itoa z:=is_S z
 rw [h1,h2,body_itoa]
 exact (dec_lt _ 40 (by decide)).2 h
theorem den_size {q:Rat} (h:Dig 40 (q.den:Int)):(S (q.den:Int)).size≤40:=by
 have h1:(S (q.den:Int)).size=(itoa (q.den:Int)).length:=by unfold S ByteArray.size;simp
 rw [h1,itoa_nn]
 exact (dec_lt _ 40 (by decide)).2 (by unfold Dig at h;rwa [Int.natAbs_natCast] at h)
theorem dshort {q:Rat} (hq:QDig 40 q) (w:World) (he:Env w):Calls Tryz.prog 67 #[Q q] w (BoolOk true w):=by
 have hB:Below w.heap.size w w:=Below.refl _ _
 have MV:=fun W (h:Env W)=>qvalid q (hq.mono (by omega)) W h
 unfold BoolOk Q at MV
 have MT:=fun W=>trimS q.num W
 have b1:=body_size hq.1
 have b2:=den_size hq.2
 unfold BoolOk Q
 generalize (⟨(body (S q.num).data.toList).toArray⟩:ByteArray)=tn at *
 generalize S q.num=sn at *
 generalize S (q.den:Int)=sd at *
 clear hq
 have e1:decide ((tn.size:Int)≤40)=true:=decide_eq_true (by omega)
 have e2:decide ((sd.size:Int)≤40)=true:=decide_eq_true (by omega)
 clear b1 b2
 go_enter Tryz.func67, Tryz.ntmps67
 go_wp2_with fail
 have sB:=hB.size
 refine world_cut (fun X=>Below w.heap.size w X∧Row X w.heap.size (.cells #[.string sn,.string sd] 23)) ⟨BW,RW⟩ ?_
 clear hB sB
 rintro V1 ⟨hB,rr⟩
 have sr:=RF2 rr
 refine (MV _ (he.below hB)).mono ?_
 rintro e W2 ⟨rfl,h1⟩
 clear sr
 replace hB:=hB.trans (h1.mono hB.size)
 replace rr:=Row.below rr h1
 clear h1
 have sr:=RF2 rr
 go_wp2_with fail
 refine (MT _).mono ?_
 rintro e W3 ⟨rfl,h1⟩
 clear sr
 replace hB:=hB.trans (h1.mono hB.size)
 replace rr:=Row.below rr h1
 clear h1
 have sr:=RF2 rr
 go_wp2
 go_ret
 exact ⟨rfl,hB⟩
theorem dreach {r:Rat} {t k:Nat} (hr:QDig k r) (ht:t≤1000000) (hk:k+7≤200) (w:World) (he:Env w):Calls Tryz.prog 51 #[Q r,.int .i64 (t:Int)] w (QOk (far r t) w):=by
 have hB:Below w.heap.size w w:=Below.refl _ _
 have MO:=fun W (h:Env W)=>qof (n:=(t:Int)) (d:=1) ⟨by omega,by omega⟩ ⟨by omega,by omega⟩ (by omega) W h
 have dt:QDig 7 (Rat.divInt (t:Int) 1):=qdig_of (by omega) (by omega) (by omega)
 have MM:=fun W (h:Env W)=>qmul hr dt (by omega) W h
 rw [far_divInt] at MM
 unfold QOk Q
 unfold QOk Q at MO MM
 generalize far r t=f at *
 generalize Rat.divInt (t:Int) 1=u at *
 clear hr ht hk dt
 go_enter Tryz.func51, Tryz.ntmps51
 go_wp2_with fail
 have d0_o:w.heap.size≤w.heap.size+1:=by have:=hB.size;omega
 have sB:=hB.size
 refine world_cut (fun X=>Below w.heap.size w X∧Row X w.heap.size (.cells #[.string (S r.num),.string (S (r.den:Int))] 23)∧Row X (w.heap.size+1) (.cells #[.string ⟨#[]⟩,.string ⟨#[]⟩] 23)) ⟨BW,RW,RW⟩ ?_
 clear hB sB
 rintro V1 ⟨hB,rr,ro⟩
 have sr:=RF2 rr
 have so:=RFz2 ro
 refine (MO _ (he.below hB)).mono ?_
 rintro e W2 ⟨rfl,h1⟩
 clear sr
 clear so
 replace hB:=hB.trans (h1.mono hB.size)
 replace rr:=Row.below rr h1
 replace ro:=Row.below ro h1
 clear h1
 have sr:=RF2 rr
 have so:=RFz2 ro
 go_wp2_with fail
 skip
 have sB:=hB.size
 refine world_cut (fun X=>Below w.heap.size w X∧Row X (w.heap.size+1) (.cells #[.string ⟨#[]⟩,.string ⟨#[]⟩] 23)) ⟨BW,RW⟩ ?_
 clear rr
 clear sr
 clear ro
 clear so
 clear hB sB
 rintro V3 ⟨hB,ro⟩
 have so:=RFz2 ro
 refine (MM _ (he.below hB)).mono ?_
 rintro e W4 ⟨rfl,h1⟩
 clear so
 replace hB:=hB.trans (h1.mono hB.size)
 replace ro:=Row.below ro h1
 clear h1
 have so:=RFz2 ro
 go_wp2_with fail
 have sB:=hB.size
 refine post_cut (fun X=>Below w.heap.size w X∧Row X (w.heap.size+1) (.cells #[.string (S f.num),.string (S (f.den:Int))] 23)) ⟨BW,RW⟩ ?_
 clear ro
 clear so
 clear hB sB
 rintro V5 ⟨hB,ro⟩
 skip
 have so:=RFz2 ro
 refine bodyPost_ret (v := .tuple #[.agg #[.string (S f.num),.string (S (f.den:Int))],.int .i64 0]) ?res rfl ⟨rfl,hB⟩
 case res=>simp [results,Tryz.results51, go_sem,so]
theorem dfar1 {x f:Rat} (hx:QDig 200 x) (hf:QDig 200 f) (b:Nat) (w:World) (he:Env w) (hrow:Row w b (.cells #[.string (S f.num),.string (S (f.den:Int))] 23)):Calls Tryz.prog 132 #[Q x,.pointer (some ⟨b,0,none⟩)] w (BoolOk (decide (0<cmpQ x f)) w):=by
 have hB:Below w.heap.size w w:=Below.refl _ _
 have rf:=hrow
 have MC:=fun W (h:Env W)=>qcompare x f hx hf W h
 unfold CmpOk Q at MC
 clear hx hf
 generalize hc:cmpQ x f=c at *
 have HC:=Lib.hid hc
 clear hc
 unfold Q
 go_enter Tryz.func132, Tryz.ntmps132
 have sf:=RF2 rf
 go_wp2_with fail
 skip
 have sB:=hB.size
 refine world_cut (fun X=>Below w.heap.size w X) BW ?_
 clear rf
 clear sf
 clear hB sB
 rintro V1 hB
 refine (MC _ (he.below hB)).mono ?_
 rintro e W2 ⟨rfl,h1⟩
 replace hB:=hB.trans (h1.mono hB.size)
 clear h1
 go_wp2
 go_ret
 exact ⟨by rw [← HC.out];rfl,hB⟩
def GapOk (r:Rat) (a b:Pt) (w:World) (e:Ending) (w':World):Prop:=e = .returned (.tuple #[Q (b.iv.lo - a.iv.hi),Q (a.iv.lo - b.iv.hi),Q (far r (b.t - a.t)),.bool true])∧Below w.heap.size w w'
def PV (p:Pt):Value := .agg #[.int .i64 (p.t:Int),.string (S p.iv.lo.num),.string (S (p.iv.lo.den:Int)),.string (S p.iv.hi.num),.string (S (p.iv.hi.den:Int))]
theorem dgap {r:Rat} {a b:Pt} (hr:QDig 40 r) (da:IDig 40 a.iv) (db:IDig 40 b.iv) (hab:a.t≤b.t) (hb:b.t≤1000000) (w:World) (he:Env w):Calls Tryz.prog 131 #[Q r,PV a,PV b] w (GapOk r a b w):=by
 have hB:Below w.heap.size w w:=Below.refl _ _
 have MU:=fun W (h:Env W)=>qsub db.1 da.2 (by omega) W h
 have MV:=fun W (h:Env W)=>qsub da.1 db.2 (by omega) W h
 have MR:=fun W (h:Env W)=>dreach (t:=b.t - a.t) hr (by omega) (by omega) W h
 have hsub:(b.t:Int) - (a.t:Int)=((b.t - a.t:Nat):Int):=by omega
 unfold GapOk Q PV
 unfold QOk Q at MU MV MR
 generalize b.iv.lo - a.iv.hi=u at *
 generalize a.iv.lo - b.iv.hi=v at *
 generalize far r (b.t - a.t)=f at *
 have hw:IntKind.i64.wrap ((b.t:Int) - (a.t:Int))=((b.t - a.t:Nat):Int):=by rw [IntKind.wrap_i64];omega
 clear da db hr hab hsub
 go_enter Tryz.func131, Tryz.ntmps131
 go_wp2_with fail
 have d0_u:w.heap.size≤w.heap.size+1+1+1:=by have:=hB.size;omega
 have d0_v:w.heap.size≤w.heap.size+1+1+1+1:=by have:=hB.size;omega
 have d0_f:w.heap.size≤w.heap.size+1+1+1+1+1:=by have:=hB.size;omega
 have sB:=hB.size
 refine world_cut (fun X=>Below w.heap.size w X∧Row X w.heap.size (.cells #[.string (S r.num),.string (S (r.den:Int))] 23)∧Row X (w.heap.size+1) (.cells #[.int .i64 (a.t:Int),.string (S a.iv.lo.num),.string (S (a.iv.lo.den:Int)),.string (S a.iv.hi.num),.string (S (a.iv.hi.den:Int))] 32)∧Row X (w.heap.size+1+1) (.cells #[.int .i64 (b.t:Int),.string (S b.iv.lo.num),.string (S (b.iv.lo.den:Int)),.string (S b.iv.hi.num),.string (S (b.iv.hi.den:Int))] 32)∧Row X (w.heap.size+1+1+1) (.cells #[.string ⟨#[]⟩,.string ⟨#[]⟩] 23)∧Row X (w.heap.size+1+1+1+1) (.cells #[.string ⟨#[]⟩,.string ⟨#[]⟩] 23)∧Row X (w.heap.size+1+1+1+1+1) (.cells #[.string ⟨#[]⟩,.string ⟨#[]⟩] 23)) ⟨BW,RW,RW,RW,RW,RW,RW⟩ ?_
 clear hB sB
 rintro V1 ⟨hB,rr,ra,rb,ru,rv,rf⟩
 have sr:=RF2 rr
 have sa:=RF5 ra
 have sb:=RF5 rb
 have su:=RFz2 ru
 have sv:=RFz2 rv
 have sf:=RFz2 rf
 refine (MU _ (he.below hB)).mono ?_
 rintro e W2 ⟨rfl,h1⟩
 clear sr
 clear sa
 clear sb
 clear su
 clear sv
 clear sf
 replace hB:=hB.trans (h1.mono hB.size)
 replace rr:=Row.below rr h1
 replace ra:=Row.below ra h1
 replace rb:=Row.below rb h1
 replace ru:=Row.below ru h1
 replace rv:=Row.below rv h1
 replace rf:=Row.below rf h1
 clear h1
 have sr:=RF2 rr
 have sa:=RF5 ra
 have sb:=RF5 rb
 have su:=RFz2 ru
 have sv:=RFz2 rv
 have sf:=RFz2 rf
 go_wp2_with fail
 have sB:=hB.size
 refine world_cut (fun X=>Below w.heap.size w X∧Row X w.heap.size (.cells #[.string (S r.num),.string (S (r.den:Int))] 23)∧Row X (w.heap.size+1) (.cells #[.int .i64 (a.t:Int),.string (S a.iv.lo.num),.string (S (a.iv.lo.den:Int)),.string (S a.iv.hi.num),.string (S (a.iv.hi.den:Int))] 32)∧Row X (w.heap.size+1+1) (.cells #[.int .i64 (b.t:Int),.string (S b.iv.lo.num),.string (S (b.iv.lo.den:Int)),.string (S b.iv.hi.num),.string (S (b.iv.hi.den:Int))] 32)∧Row X (w.heap.size+1+1+1) (.cells #[.string (S u.num),.string (S (u.den:Int))] 23)∧Row X (w.heap.size+1+1+1+1) (.cells #[.string ⟨#[]⟩,.string ⟨#[]⟩] 23)∧Row X (w.heap.size+1+1+1+1+1) (.cells #[.string ⟨#[]⟩,.string ⟨#[]⟩] 23)) ⟨BW,RW,RW,RW,RW,RW,RW⟩ ?_
 clear rr
 clear sr
 clear ra
 clear sa
 clear rb
 clear sb
 clear ru
 clear su
 clear rv
 clear sv
 clear rf
 clear sf
 clear hB sB
 rintro V3 ⟨hB,rr,ra,rb,ru,rv,rf⟩
 have sr:=RF2 rr
 have sa:=RF5 ra
 have sb:=RF5 rb
 skip
 have su:=RFz2 ru
 have sv:=RFz2 rv
 have sf:=RFz2 rf
 refine (MV _ (he.below hB)).mono ?_
 rintro e W4 ⟨rfl,h1⟩
 clear sr
 clear sa
 clear sb
 clear su
 clear sv
 clear sf
 replace hB:=hB.trans (h1.mono hB.size)
 replace rr:=Row.below rr h1
 replace ra:=Row.below ra h1
 replace rb:=Row.below rb h1
 replace ru:=Row.below ru h1
 replace rv:=Row.below rv h1
 replace rf:=Row.below rf h1
 clear h1
 have sr:=RF2 rr
 have sa:=RF5 ra
 have sb:=RF5 rb
 have su:=RFz2 ru
 have sv:=RFz2 rv
 have sf:=RFz2 rf
 go_wp2_with fail
 skip
 skip
 skip
 have sB:=hB.size
 refine world_cut (fun X=>Below w.heap.size w X∧Row X (w.heap.size+1+1+1) (.cells #[.string (S u.num),.string (S (u.den:Int))] 23)∧Row X (w.heap.size+1+1+1+1) (.cells #[.string (S v.num),.string (S (v.den:Int))] 23)∧Row X (w.heap.size+1+1+1+1+1) (.cells #[.string ⟨#[]⟩,.string ⟨#[]⟩] 23)) ⟨BW,RW,RW,RW⟩ ?_
 clear rr
 clear sr
 clear ra
 clear sa
 clear rb
 clear sb
 clear ru
 clear su
 clear rv
 clear sv
 clear rf
 clear sf
 clear hB sB
 rintro V5 ⟨hB,ru,rv,rf⟩
 have su:=RFz2 ru
 skip
 have sv:=RFz2 rv
 have sf:=RFz2 rf
 refine (MR _ (he.below hB)).mono ?_
 rintro e W6 ⟨rfl,h1⟩
 clear su
 clear sv
 clear sf
 replace hB:=hB.trans (h1.mono hB.size)
 replace ru:=Row.below ru h1
 replace rv:=Row.below rv h1
 replace rf:=Row.below rf h1
 clear h1
 have su:=RFz2 ru
 have sv:=RFz2 rv
 have sf:=RFz2 rf
 go_wp2_with fail
 have sB:=hB.size
 refine wp_cut (fun X=>Below w.heap.size w X∧Row X (w.heap.size+1+1+1) (.cells #[.string (S u.num),.string (S (u.den:Int))] 23)∧Row X (w.heap.size+1+1+1+1) (.cells #[.string (S v.num),.string (S (v.den:Int))] 23)∧Row X (w.heap.size+1+1+1+1+1) (.cells #[.string (S f.num),.string (S (f.den:Int))] 23)) ⟨BW,RW,RW,RW⟩ ?_
 clear ru
 clear su
 clear rv
 clear sv
 clear rf
 clear sf
 clear hB sB
 rintro V7 ⟨hB,ru,rv,rf⟩
 have su:=RFz2 ru
 have sv:=RFz2 rv
 skip
 have sf:=RFz2 rf
 refine wp_region_vals [.agg #[.string (S u.num),.string (S (u.den:Int))],.agg #[.string (S v.num),.string (S (v.den:Int))],.agg #[.string (S f.num),.string (S (f.den:Int))],.int .i64 0,.bool true,.bool true,.int .i64 0,.bool true,.bool true,.bool true,.int .i64 0,.bool true,.bool true,undef,undef,undef,.bool true] (by kernel_rfl) (by kernel_rfl) rfl (allVals.cons (qv1 fun X h=>RFz2 (Row.below ru h)) (allVals.cons (qv1 fun X h=>RFz2 (Row.below rv h)) (allVals.cons (qv1 fun X h=>RFz2 (Row.below rf h)) (allVals.cons qv0 (allVals.cons qv0 (allVals.cons qv0 (allVals.cons qv0 (allVals.cons qv0 (allVals.cons qv0 (allVals.cons qv0 (allVals.cons qv0 (allVals.cons qv0 (allVals.cons qv0 (allVals.cons (qvst fun X h=>Row.below ru h) (allVals.cons (qvst fun X h=>Row.below rv h) (allVals.cons (qvst fun X h=>Row.below rf h) (allVals.cons qv0 trivial))))))))))))))))) ?_
 rintro W h1
 clear su
 clear sv
 clear sf
 replace hB:=hB.trans (h1.mono hB.size)
 replace ru:=Row.below ru h1
 replace rv:=Row.below rv h1
 replace rf:=Row.below rf h1
 clear h1
 have su:=RFz2 ru
 have sv:=RFz2 rv
 have sf:=RFz2 rf
 simp only [setVals,List.setIfInBounds_toArray,List.set_cons_succ,List.set_cons_zero]
 go_wp2_with fail
 have sB:=hB.size
 refine post_cut (fun X=>Below w.heap.size w X∧Row X (w.heap.size+1+1+1) (.cells #[.string (S u.num),.string (S (u.den:Int))] 23)∧Row X (w.heap.size+1+1+1+1) (.cells #[.string (S v.num),.string (S (v.den:Int))] 23)∧Row X (w.heap.size+1+1+1+1+1) (.cells #[.string (S f.num),.string (S (f.den:Int))] 23)) ⟨BW,RW,RW,RW⟩ ?_
 clear ru
 clear su
 clear rv
 clear sv
 clear rf
 clear sf
 clear hB sB
 rintro V8 ⟨hB,ru,rv,rf⟩
 have su:=RFz2 ru
 have sv:=RFz2 rv
 have sf:=RFz2 rf
 refine bodyPost_ret (v := .tuple #[.agg #[.string (S u.num),.string (S (u.den:Int))],.agg #[.string (S v.num),.string (S (v.den:Int))],.agg #[.string (S f.num),.string (S (f.den:Int))],.bool true]) ?res rfl ⟨rfl,hB⟩
 case res=>simp [results,Tryz.results131, go_sem,su,sv,sf]
end Go.Proofs.YtnokpldomlmamaaGreatDoor
namespace Go.Proofs.YtnokpldomlmamaaGreatDoor
open Go Go.RowKit Go.Lib Go.Shelf
theorem evalid (a:Iv) (ha:IDig 200 a) (w:World) (he:Env w):Calls Tryz.prog 68 #[I a] w (BoolOk (decide (a.lo≤a.hi)) w):=by
 have hB:Below w.heap.size w w:=Below.refl _ _
 have h1:=fun W (h:Env W)=>qvalid a.lo ha.1 W h
 have h2:=fun W (h:Env W)=>qvalid a.hi ha.2 W h
 have h3:=fun W (h:Env W)=>qcompare a.lo a.hi ha.1 ha.2 W h
 have dc:∀ c,decide (cmpQ a.lo a.hi≤0)=c→decide (a.lo≤a.hi)=c:=fun c h=>by rw [← h];exact decide_eq_decide.2 cmpQ_le.symm
 generalize decide (a.lo≤a.hi)=c at *
 generalize cmpQ a.lo a.hi=g at *
 show Calls Tryz.prog 68 #[.agg #[.string (S a.lo.num),.string (S (a.lo.den:Int)),.string (S a.hi.num),.string (S (a.hi.den:Int))]] w _
 go_enter Tryz.func68, Tryz.ntmps68
 go_wp2_with fail
 have sB:=hB.size
 refine world_cut (fun X=>Below w.heap.size w X∧Row X w.heap.size (.cells #[.string (S a.lo.num),.string (S (a.lo.den:Int)),.string (S a.hi.num),.string (S (a.hi.den:Int))] 30)) ⟨C1_hB,C2⟩ ?_
 clear hB sB
 rintro V1 ⟨hB,ra⟩
 have sa:=Row.cells4 ra
 refine (h1 _ (he.below hB)).mono ?_
 rintro e W2 ⟨rfl,h1⟩
 clear sa
 replace hB:=hB.trans (h1.mono hB.size)
 replace ra:=Row.below ra h1
 clear h1
 have sa:=Row.cells4 ra
 go_wp2_with fail
 refine (h2 _ (he.below hB)).mono ?_
 rintro e W3 ⟨rfl,h1⟩
 clear sa
 replace hB:=hB.trans (h1.mono hB.size)
 replace ra:=Row.below ra h1
 clear h1
 have sa:=Row.cells4 ra
 go_wp2_with fail
 refine (h3 _ (he.below hB)).mono ?_
 rintro e W4 ⟨rfl,h1⟩
 clear sa
 replace hB:=hB.trans (h1.mono hB.size)
 replace ra:=Row.below ra h1
 clear h1
 have sa:=Row.cells4 ra
 go_wp2
 go_ret
 exact ⟨by rw [dc _ rfl];rfl,hB⟩
theorem Q_zero:Q 0 = .agg #[.string ⟨#[48]⟩,.string ⟨#[49]⟩]:=by
 show Value.agg #[.string (S 0),.string (S 1)]=_
 rw [S_zero,S_one]
end Go.Proofs.YtnokpldomlmamaaGreatDoor
namespace Go.Proofs.YtnokpldomlmamaaGreatDoor
open Go Go.RowKit Go.Lib Go.Shelf
theorem drop_sorted {l:List Pt} (hs:l.Pairwise fun a b=>a.t≤b.t) {i:Nat} (hi:i<l.length):∀ q ∈ l.drop (i+1),(ptD l i).t≤q.t:=by
 have e:l.drop i=ptD l i :: l.drop (i+1):=by
  have:ptD l i=l[i]:=by unfold ptD;rw [List.getD_eq_getElem?_getD,List.getElem?_eq_getElem hi];rfl
  rw [this,List.drop_eq_getElem_cons hi]
 have h:=hs.sublist (List.drop_sublist i l)
 rw [e,List.pairwise_cons] at h
 exact h.1
theorem ptD_drop {l:List Pt} {i:Nat} (hi:i<l.length):ptD l i ∈ l.drop i:=by
 have:ptD l i=l[i]:=by unfold ptD;rw [List.getD_eq_getElem?_getD,List.getElem?_eq_getElem hi];rfl
 rw [this,List.drop_eq_getElem_cons hi];exact List.mem_cons_self
theorem PAt.at {W:World} {p:Option Addr} {l:List Pt} (h:PAt W p l) {i:Nat} (hi:i<l.length):∃ g cur,p=some ⟨g,0,none⟩∧Row W g (.cells cur 32)
  ∧ cur[i * 5]? = some (.int .i64 ((ptD l i).t:Int))∧cur[i * 5+1]? = some (.string (S (ptD l i).iv.lo.num))∧cur[i * 5+2]? = some (.string (S ((ptD l i).iv.lo.den:Int)))
  ∧ cur[i * 5+3]? = some (.string (S (ptD l i).iv.hi.num))∧cur[i * 5+4]? = some (.string (S ((ptD l i).iv.hi.den:Int))):=by
 rcases h with ⟨rfl,_⟩ | ⟨g,cur,rfl,hr,hx⟩
 ·simp at hi
 ·have key:∀ j,j<5→cur[i * 5+j]? = (pC (ptD l i))[j]? := fun j hj=>by
   rw [← pCells_get hi j hj,← hx,List.getElem?_take,if_pos (by omega),Array.getElem?_toList]
  exact ⟨g,cur,rfl,hr,key 0 (by omega),key 1 (by omega),key 2 (by omega),key 3 (by omega),key 4 (by omega)⟩
theorem qdig0 (k:Nat) (hk:0<k):QDig k (0:Rat):=QDig.mono (j:=1) (by unfold QDig Dig;decide +kernel) hk
theorem dvalid {h:Hist} (ho:h.Ok) (p:Option Addr) (n c:Nat) (hn:h.pts.length=n) (w:World) (hp:PAt w p h.pts) (he:Env w):Calls Tryz.prog 22 #[HV h (.slice p n c)] w (BoolOk true w):=by
 have hB:Below w.heap.size w w:=Below.refl _ _
 have MS:=fun W (h:Env W)=>dshort ho.rdig W h
 have MC:=fun W (H:Env W)=>qcompare h.rate 0 (ho.rdig.mono (by omega)) (qdig0 200 (by omega)) W H
 have hc:0≤cmpQ h.rate 0:=cmpQ_ge.2 ho.rate
 have hfew:=ho.few
 have KEY:=Lib.hid (And.intro ho.sorted (And.intro ho.times ho.ivs))
 have HP:=Lib.hid hp
 unfold BoolOk CmpOk at *
 rw [Q_zero] at MC
 unfold Q at MS MC
 unfold HV
 clear ho hp
 generalize cmpQ h.rate 0=cm at *
 have HC:=Lib.hid hc
 have hc0:decide (cm<0)=false:=decide_eq_false (by omega)
 clear hc
 have hln:h.pts.length=n:=hn
 rw [hln] at hfew
 have HN:=Lib.hid hln
 clear hln hn
 generalize h.pts=l at *
 generalize h.rate=rt at *
 go_enter Tryz.func22, Tryz.ntmps22
 go_wp2_with fail
 have sB:=hB.size
 refine world_cut (fun X=>Below w.heap.size w X∧Row X w.heap.size (.cells #[.string (S rt.num),.string (S (rt.den:Int)),.slice p n c] 26)) ⟨BW,RW⟩ ?_
 clear hB sB
 rintro V1 ⟨hB,rh⟩
 have sh:=RF3 rh
 refine (MS _ (he.below hB)).mono ?_
 rintro e W2 ⟨rfl,h1⟩
 clear sh
 replace hB:=hB.trans (h1.mono hB.size)
 replace rh:=Row.below rh h1
 clear h1
 have sh:=RF3 rh
 go_wp2_with fail
 refine (MC _ (he.below hB)).mono ?_
 rintro e W3 ⟨rfl,h1⟩
 clear sh
 replace hB:=hB.trans (h1.mono hB.size)
 replace rh:=Row.below rh h1
 clear h1
 have sh:=RF3 rh
 go_wp2_with fail
 clear rh
 clear sh
 skip
 go_loopw [3,26] (fun v3 v26 wr=>∃ i t:Nat,v26 = .int .i64 (i:Int)∧v3 = .int .i64 (t:Int)∧i≤n∧Hid (∀ r ∈ l.drop i,t≤r.t)∧Below w.heap.size w wr) (fun _ v26 _=>(n - RowKit.intOf v26).toNat)
 case atStart=>exact ⟨0,0,rfl,rfl,by omega,Lib.hid (fun r _=>Nat.zero_le _),hB⟩
 case round =>
  clear hB
  obtain ⟨i,t,rfl,rfl,hin,ht,hB⟩:=hrel
  rcases Nat.lt_or_ge i n with hlt | hge
  ·have hlt':i<l.length:=by rw [HN.out];exact hlt
   obtain ⟨q,hq⟩:∃ q,q=ptD l i:=⟨_,rfl⟩
   have hm:q ∈ l:=hq ▸ ptD_mem hlt'
   have h1:t≤q.t:=ht.out q (hq ▸ ptD_drop hlt')
   have h2:q.t≤1000000:=KEY.out.2.1 q hm
   obtain ⟨h3,h4⟩:=KEY.out.2.2 q hm
   have MV:=fun W (h:Env W)=>evalid q.iv (h4.mono (by omega)) W h
   have M1:=fun W (h:Env W)=>dshort h4.1 W h
   have M2:=fun W (h:Env W)=>dshort h4.2 W h
   have h5:decide (q.iv.lo≤q.iv.hi)=true:=decide_eq_true h3
   rw [h5] at MV
   have ht2:=Lib.hid (hq ▸ drop_sorted KEY.out.1 hlt':∀ r ∈ l.drop (i+1),q.t≤r.t)
   unfold BoolOk I at MV
   unfold BoolOk Q at M1 M2
   obtain ⟨g,cur,rfl,rg,g0,g1,g2,g3,g4⟩:=PAt.at (PAt.below HP.out hB) hlt'
   rw [← hq] at g0 g1 g2 g3 g4
   clear hq
   have Fg:∀ X,Row X g (.cells cur 32)→(g<X.heap.size∧X.cell? ⟨g,i * 5,none⟩=some (.int .i64 (q.t:Int))∧X.cell? ⟨g,i * 5+1,none⟩=some (.string (S q.iv.lo.num))∧X.cell? ⟨g,i * 5+2,none⟩=some (.string (S (q.iv.lo.den:Int)))∧X.cell? ⟨g,i * 5+3,none⟩=some (.string (S q.iv.hi.num))∧X.cell? ⟨g,i * 5+4,none⟩=some (.string (S (q.iv.hi.den:Int)))):=fun X h=>⟨h.1,Row.cell_at h _ g0,Row.cell_at h _ g1,Row.cell_at h _ g2,Row.cell_at h _ g3,Row.cell_at h _ g4⟩
   have sg:=Fg _ rg
   clear hm h3 h4 h5 KEY ht
   have hi:(i:Int)<(n:Int):=by omega
   go_wp2_with fail
   have sB:=hB.size
   refine world_cut (fun X=>Below w.heap.size w X∧Row X g (.cells cur 32)∧Row X wr.heap.size (.cells #[.int .i64 (q.t:Int),.string (S q.iv.lo.num),.string (S (q.iv.lo.den:Int)),.string (S q.iv.hi.num),.string (S (q.iv.hi.den:Int))] 32)) ⟨BW,RW,RW⟩ ?_
   clear rg
   clear sg
   clear hB sB
   rintro V4 ⟨hB,rg,rp⟩
   have sg:=Fg _ rg
   have sp:=RF5 rp
   refine (MV _ (he.below hB)).mono ?_
   rintro e W5 ⟨rfl,h1⟩
   clear sg
   clear sp
   replace hB:=hB.trans (h1.mono hB.size)
   replace rg:=Row.below rg h1
   replace rp:=Row.below rp h1
   clear h1
   have sg:=Fg _ rg
   have sp:=RF5 rp
   go_wp2_with fail
   refine (M1 _ (he.below hB)).mono ?_
   rintro e W6 ⟨rfl,h1⟩
   clear sg
   clear sp
   replace hB:=hB.trans (h1.mono hB.size)
   replace rg:=Row.below rg h1
   replace rp:=Row.below rp h1
   clear h1
   have sg:=Fg _ rg
   have sp:=RF5 rp
   go_wp2_with fail
   refine (M2 _ (he.below hB)).mono ?_
   rintro e W7 ⟨rfl,h1⟩
   clear sg
   clear sp
   replace hB:=hB.trans (h1.mono hB.size)
   replace rg:=Row.below rg h1
   replace rp:=Row.below rp h1
   clear h1
   have sg:=Fg _ rg
   have sp:=RF5 rp
   go_wp2
   go_roundw
   case rel=>exact ⟨i+1,q.t,by go_num,rfl,by omega,ht2,BW⟩
   case measure=>simp [RowKit.intOf];omega
  ·obtain rfl:i=n:=by omega
   go_wp2
   go_ret
   exact ⟨rfl,hB⟩
theorem dshort_zero (w:World):Calls Tryz.prog 67 #[.agg #[.string ⟨#[]⟩,.string ⟨#[]⟩]] w (BoolOk false w):=by
 have hB:Below w.heap.size w w:=Below.refl _ _
 have MS:=fun W=>qvalid_zero W
 unfold BoolOk at *
 go_enter Tryz.func67, Tryz.ntmps67
 go_wp2_with fail
 have sB:=hB.size
 refine world_cut (fun X=>Below w.heap.size w X∧Row X w.heap.size (.cells #[.string ⟨#[]⟩,.string ⟨#[]⟩] 23)) ⟨BW,RW⟩ ?_
 clear hB sB
 rintro V1 ⟨hB,rr⟩
 have sr:=RF2 rr
 refine (MS _).mono ?_
 rintro e W2 ⟨rfl,h1⟩
 clear sr
 replace hB:=hB.trans (h1.mono hB.size)
 replace rr:=Row.below rr h1
 clear h1
 have sr:=RF2 rr
 go_wp2
 go_ret
 exact ⟨rfl,hB⟩
theorem dvalid_zero (w:World):Calls Tryz.prog 22 #[.agg #[.string ⟨#[]⟩,.string ⟨#[]⟩,.slice none 0 0]] w (BoolOk false w):=by
 have hB:Below w.heap.size w w:=Below.refl _ _
 have MS:=fun W=>dshort_zero W
 unfold BoolOk at *
 go_enter Tryz.func22, Tryz.ntmps22
 go_wp2_with fail
 have sB:=hB.size
 refine world_cut (fun X=>Below w.heap.size w X∧Row X w.heap.size (.cells #[.string ⟨#[]⟩,.string ⟨#[]⟩,.slice none 0 0] 26)) ⟨BW,RW⟩ ?_
 clear hB sB
 rintro V1 ⟨hB,rh⟩
 have sh:=RF3 rh
 refine (MS _).mono ?_
 rintro e W2 ⟨rfl,h1⟩
 clear sh
 replace hB:=hB.trans (h1.mono hB.size)
 replace rh:=Row.below rh h1
 clear h1
 have sh:=RF3 rh
 go_wp2
 go_ret
 exact ⟨rfl,hB⟩
end Go.Proofs.YtnokpldomlmamaaGreatDoor
