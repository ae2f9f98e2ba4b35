/-
 The reference of drift: how far a value gets, whether two points contradict each other, points widened to a time. drift.At where it hands back an error ahead of its loop; drift.Contradictions.
-/
import Derived.Test.YtnokpldomlmamaaGreatDoorODAt
import Derived.Test.YtnokpldomlmamaaGreatDoorOR12
import Derived.Test.YtnokpldomlmamaaGreatDoorOTail
set_option linter.unusedSimpArgs false
set_option linter.unusedVariables false
set_option maxRecDepth 100000
set_option maxHeartbeats 16000000
namespace Go.Proofs.YtnokpldomlmamaaGreatDoor
open Go Go.RowKit Go.Lib Go.Shelf
theorem r12reach {r:Rat} {t k:Nat} (hr:QDig k r) (ht:t≤1000000) (hk:k+7≤200) (w:World):Calls Tryz.prog 135 #[Q r,.int .i64 (t:Int)] w (QOk (far r t) w):=by
 have hB:Below w.heap.size w w:=Below.refl _ _
 have MO:=fun W=>rqof (n:=(t:Int)) (d:=1) ⟨by omega,by omega⟩ ⟨by omega,by omega⟩ (by omega) W
 have dt:QDig 7 (Rat.divInt (t:Int) 1):=qdig_of (by omega) (by omega) (by omega)
 have MM:=fun W=>rqmul hr dt (by omega) W
 rw [far_divInt] at MM
 unfold QOk Q
 unfold QOk Q at MO MM
 generalize far r t=f at *
 generalize Rat.divInt (t:Int) 1=u at *
 clear hr ht hk dt
 go_enter Tryz.func135, Tryz.ntmps135
 go_wp2_with fail
 have d0_o:w.heap.size≤w.heap.size+1:=by have:=hB.size;omega
 have sB:=hB.size
 refine world_cut (fun X=>Below w.heap.size w X∧Row X w.heap.size (.cells #[.string (S r.num),.string (S (r.den:Int))] 23)∧Row X (w.heap.size+1) (.cells #[.string ⟨#[]⟩,.string ⟨#[]⟩] 23)) ⟨BW,RWh,RWh⟩ ?_
 clear hB sB
 rintro V1 ⟨hB,rr,ro⟩
 have sr:=RF2 rr
 have so:=RFz2 ro
 refine (MO _).mono ?_
 rintro e W2 ⟨rfl,h1⟩
 have st:=St2 hB h1 rr ro;clear hB h1 rr sr ro so
 obtain ⟨hB,rr,ro⟩:=st
 have sr:=RF2 rr
 have so:=RFz2 ro
 go_wp2_with fail
 have sB:=hB.size
 refine world_cut (fun X=>Below w.heap.size w X∧Row X (w.heap.size+1) (.cells #[.string ⟨#[]⟩,.string ⟨#[]⟩] 23)) ⟨BW,RWh⟩ ?_
 clear rr
 clear sr
 clear ro
 clear so
 clear hB sB
 rintro V3 ⟨hB,ro⟩
 have so:=RFz2 ro
 refine (MM _).mono ?_
 rintro e W4 ⟨rfl,h1⟩
 have st:=St1 hB h1 ro;clear hB h1 ro so
 obtain ⟨hB,ro⟩:=st
 have so:=RFz2 ro
 go_wp2_with fail
 have sB:=hB.size
 refine post_cut (fun X=>Below w.heap.size w X∧Row X (w.heap.size+1) (.cells #[.string (S f.num),.string (S (f.den:Int))] 23)) ⟨BW,RWh⟩ ?_
 clear ro
 clear so
 clear hB sB
 rintro V5 ⟨hB,ro⟩
 have so:=RFz2 ro
 refine bodyPost_ret (v := .tuple #[.agg #[.string (S f.num),.string (S (f.den:Int))],.int .i64 0]) ?res rfl ⟨rfl,hB⟩
 case res=>simp [results,Tryz.results135, go_sem,so]
def R12Con (c:Bool) (w:World) (e:Ending) (w':World):Prop:=e = .returned (.tuple #[.bool c,.int .i64 0])∧Below w.heap.size w w'
theorem dist_le' {a b:Nat} (h:a≤b):dist b a=b - a:=by rw [dist_comm];exact dist_le h
theorem r12contra_yes {r:Rat} {a b:Pt} (hr:QDig 40 r) (da:IDig 40 a.iv) (db:IDig 40 b.iv) (hab:a.t≤b.t) (hb:b.t≤1000000) (hc:0<cmpQ (b.iv.lo - a.iv.hi) (far r (b.t - a.t))) (w:World):Calls Tryz.prog 54 #[Q r,.agg #[.int .i64 (a.t:Int),.string (S a.iv.lo.num),.string (S (a.iv.lo.den:Int)),.string (S a.iv.hi.num),.string (S (a.iv.hi.den:Int))],.agg #[.int .i64 (b.t:Int),.string (S b.iv.lo.num),.string (S (b.iv.lo.den:Int)),.string (S b.iv.hi.num),.string (S (b.iv.hi.den:Int))]] w (R12Con (decide (contra r a b)) w):=by
 have hB:Below w.heap.size w w:=Below.refl _ _
 have MU:=fun W=>rqsub db.1 da.2 (by omega) W
 have MV:=fun W=>rqsub da.1 db.2 (by omega) W
 have MR:=fun W=>r12reach (t:=b.t - a.t) hr (by omega) (by omega) W
 have dF:=(far_dig hr (d:=b.t - a.t) (by omega)).mono (show 40+7≤200 by omega)
 have MC:=fun W=>rqcompare (b.iv.lo - a.iv.hi) (far r (b.t - a.t)) ((db.1.sub da.2).mono (by omega)) dF W
 have MD:=fun W=>rqcompare (a.iv.lo - b.iv.hi) (far r (b.t - a.t)) ((da.1.sub db.2).mono (by omega)) dF W
 have hw:IntKind.i64.wrap ((b.t:Int) - (a.t:Int))=((b.t - a.t:Nat):Int):=by rw [IntKind.wrap_i64];omega
 have hcon:contra r a b ↔ 0<cmpQ (b.iv.lo - a.iv.hi) (far r (b.t - a.t))∨0<cmpQ (a.iv.lo - b.iv.hi) (far r (b.t - a.t)):=by unfold contra;rw [cmpQ_gt,cmpQ_gt,dist_le' hab]
 unfold R12Con Q
 unfold QOk Q at MU MV MR
 unfold CmpOk Q at MC MD
 generalize cmpQ (b.iv.lo - a.iv.hi) (far r (b.t - a.t))=c1 at *
 generalize cmpQ (a.iv.lo - b.iv.hi) (far r (b.t - a.t))=c2 at *
 generalize b.iv.lo - a.iv.hi=u at *
 generalize a.iv.lo - b.iv.hi=v at *
 generalize far r (b.t - a.t)=f at *
 have HCON:=Lib.hid hcon
 clear da db hr hab hb dF hcon
 have e1:0<c1:=hc
 clear hc
 go_enter Tryz.func54, Tryz.ntmps54
 go_wp2_with fail
 have sB:=hB.size
 refine world_cut (fun X=>Below w.heap.size w X∧Row X (w.heap.size+1) (.cells #[.int .i64 (a.t:Int),.string (S a.iv.lo.num),.string (S (a.iv.lo.den:Int)),.string (S a.iv.hi.num),.string (S (a.iv.hi.den:Int))] 32)∧Row X (w.heap.size+1+1) (.cells #[.int .i64 (b.t:Int),.string (S b.iv.lo.num),.string (S (b.iv.lo.den:Int)),.string (S b.iv.hi.num),.string (S (b.iv.hi.den:Int))] 32)) ⟨BW,RWh,RWh⟩ ?_
 clear hB sB
 rintro V1 ⟨hB,ra,rb⟩
 have sa:=RF5 ra
 have sb:=RF5 rb
 refine (MR _).mono ?_
 rintro e W2 ⟨rfl,h1⟩
 have st:=St2 hB h1 ra rb;clear hB h1 ra sa rb sb
 obtain ⟨hB,ra,rb⟩:=st
 have sa:=RF5 ra
 have sb:=RF5 rb
 go_wp2_with fail
 have da_d:w.heap.size+1<W2.heap.size:=by omega
 have db_d:w.heap.size+1+1<W2.heap.size:=by omega
 have d0_d:w.heap.size≤W2.heap.size:=by have:=hB.size;omega
 have sB:=hB.size
 refine world_cut (fun X=>Below w.heap.size w X∧Row X (w.heap.size+1) (.cells #[.int .i64 (a.t:Int),.string (S a.iv.lo.num),.string (S (a.iv.lo.den:Int)),.string (S a.iv.hi.num),.string (S (a.iv.hi.den:Int))] 32)∧Row X (w.heap.size+1+1) (.cells #[.int .i64 (b.t:Int),.string (S b.iv.lo.num),.string (S (b.iv.lo.den:Int)),.string (S b.iv.hi.num),.string (S (b.iv.hi.den:Int))] 32)∧Row X W2.heap.size (.cells #[.string (S f.num),.string (S (f.den:Int))] 23)) ⟨BW,RWh,RWh,RWh⟩ ?_
 clear ra
 clear sa
 clear rb
 clear sb
 clear hB sB
 rintro V3 ⟨hB,ra,rb,rd⟩
 have sa:=RF5 ra
 have sb:=RF5 rb
 have sd:=RFz2 rd
 refine (MU _).mono ?_
 rintro e W4 ⟨rfl,h1⟩
 have st:=St3 hB h1 ra rb rd;clear hB h1 ra sa rb sb rd sd
 obtain ⟨hB,ra,rb,rd⟩:=st
 have sa:=RF5 ra
 have sb:=RF5 rb
 have sd:=RFz2 rd
 go_wp2_with fail
 have dd_up:W2.heap.size<W4.heap.size:=by omega
 have d0_up:w.heap.size≤W4.heap.size:=by have:=hB.size;omega
 have sB:=hB.size
 refine world_cut (fun X=>Below w.heap.size w X∧Row X W2.heap.size (.cells #[.string (S f.num),.string (S (f.den:Int))] 23)∧Row X W4.heap.size (.cells #[.string (S u.num),.string (S (u.den:Int))] 23)) ⟨BW,RWh,RWh⟩ ?_
 clear ra
 clear sa
 clear rb
 clear sb
 clear rd
 clear sd
 clear hB sB
 rintro V5 ⟨hB,rd,rup⟩
 have sd:=RFz2 rd
 have sup:=RFz2 rup
 refine (MV _).mono ?_
 rintro e W6 ⟨rfl,h1⟩
 have st:=St2 hB h1 rd rup;clear hB h1 rd sd rup sup
 obtain ⟨hB,rd,rup⟩:=st
 have sd:=RFz2 rd
 have sup:=RFz2 rup
 go_wp2_with fail
 have dd_dn:W2.heap.size<W6.heap.size:=by omega
 have d0_dn:w.heap.size≤W6.heap.size:=by have:=hB.size;omega
 have sB:=hB.size
 refine world_cut (fun X=>Below w.heap.size w X∧Row X W2.heap.size (.cells #[.string (S f.num),.string (S (f.den:Int))] 23)∧Row X W6.heap.size (.cells #[.string (S v.num),.string (S (v.den:Int))] 23)) ⟨BW,RWh,RWh⟩ ?_
 clear rd
 clear sd
 clear rup
 clear sup
 clear hB sB
 rintro V7 ⟨hB,rd,rdn⟩
 have sd:=RFz2 rd
 have sdn:=RFz2 rdn
 refine (MC _).mono ?_
 rintro e W8 ⟨rfl,h1⟩
 have st:=St2 hB h1 rd rdn;clear hB h1 rd sd rdn sdn
 obtain ⟨hB,rd,rdn⟩:=st
 have sd:=RFz2 rd
 have sdn:=RFz2 rdn
 go_wp2
 refine bodyPost_ret (v := .tuple #[.bool true,.int .i64 0]) ?res rfl ⟨?_,hB⟩
 case res=>simp [results,Tryz.results54, go_sem]
 rw [decide_eq_true (HCON.out.2 (.inl e1))]
theorem r12contra_no {r:Rat} {a b:Pt} (hr:QDig 40 r) (da:IDig 40 a.iv) (db:IDig 40 b.iv) (hab:a.t≤b.t) (hb:b.t≤1000000) (hc:¬ (0<cmpQ (b.iv.lo - a.iv.hi) (far r (b.t - a.t)))) (w:World):Calls Tryz.prog 54 #[Q r,.agg #[.int .i64 (a.t:Int),.string (S a.iv.lo.num),.string (S (a.iv.lo.den:Int)),.string (S a.iv.hi.num),.string (S (a.iv.hi.den:Int))],.agg #[.int .i64 (b.t:Int),.string (S b.iv.lo.num),.string (S (b.iv.lo.den:Int)),.string (S b.iv.hi.num),.string (S (b.iv.hi.den:Int))]] w (R12Con (decide (contra r a b)) w):=by
 have hB:Below w.heap.size w w:=Below.refl _ _
 have MU:=fun W=>rqsub db.1 da.2 (by omega) W
 have MV:=fun W=>rqsub da.1 db.2 (by omega) W
 have MR:=fun W=>r12reach (t:=b.t - a.t) hr (by omega) (by omega) W
 have dF:=(far_dig hr (d:=b.t - a.t) (by omega)).mono (show 40+7≤200 by omega)
 have MC:=fun W=>rqcompare (b.iv.lo - a.iv.hi) (far r (b.t - a.t)) ((db.1.sub da.2).mono (by omega)) dF W
 have MD:=fun W=>rqcompare (a.iv.lo - b.iv.hi) (far r (b.t - a.t)) ((da.1.sub db.2).mono (by omega)) dF W
 have hw:IntKind.i64.wrap ((b.t:Int) - (a.t:Int))=((b.t - a.t:Nat):Int):=by rw [IntKind.wrap_i64];omega
 have hcon:contra r a b ↔ 0<cmpQ (b.iv.lo - a.iv.hi) (far r (b.t - a.t))∨0<cmpQ (a.iv.lo - b.iv.hi) (far r (b.t - a.t)):=by unfold contra;rw [cmpQ_gt,cmpQ_gt,dist_le' hab]
 unfold R12Con Q
 unfold QOk Q at MU MV MR
 unfold CmpOk Q at MC MD
 generalize cmpQ (b.iv.lo - a.iv.hi) (far r (b.t - a.t))=c1 at *
 generalize cmpQ (a.iv.lo - b.iv.hi) (far r (b.t - a.t))=c2 at *
 generalize b.iv.lo - a.iv.hi=u at *
 generalize a.iv.lo - b.iv.hi=v at *
 generalize far r (b.t - a.t)=f at *
 have HCON:=Lib.hid hcon
 clear da db hr hab hb dF hcon
 have e1:¬ (0<c1):=hc
 clear hc
 go_enter Tryz.func54, Tryz.ntmps54
 go_wp2_with fail
 have sB:=hB.size
 refine world_cut (fun X=>Below w.heap.size w X∧Row X (w.heap.size+1) (.cells #[.int .i64 (a.t:Int),.string (S a.iv.lo.num),.string (S (a.iv.lo.den:Int)),.string (S a.iv.hi.num),.string (S (a.iv.hi.den:Int))] 32)∧Row X (w.heap.size+1+1) (.cells #[.int .i64 (b.t:Int),.string (S b.iv.lo.num),.string (S (b.iv.lo.den:Int)),.string (S b.iv.hi.num),.string (S (b.iv.hi.den:Int))] 32)) ⟨BW,RWh,RWh⟩ ?_
 clear hB sB
 rintro V1 ⟨hB,ra,rb⟩
 have sa:=RF5 ra
 have sb:=RF5 rb
 refine (MR _).mono ?_
 rintro e W2 ⟨rfl,h1⟩
 have st:=St2 hB h1 ra rb;clear hB h1 ra sa rb sb
 obtain ⟨hB,ra,rb⟩:=st
 have sa:=RF5 ra
 have sb:=RF5 rb
 go_wp2_with fail
 have da_d:w.heap.size+1<W2.heap.size:=by omega
 have db_d:w.heap.size+1+1<W2.heap.size:=by omega
 have d0_d:w.heap.size≤W2.heap.size:=by have:=hB.size;omega
 have sB:=hB.size
 refine world_cut (fun X=>Below w.heap.size w X∧Row X (w.heap.size+1) (.cells #[.int .i64 (a.t:Int),.string (S a.iv.lo.num),.string (S (a.iv.lo.den:Int)),.string (S a.iv.hi.num),.string (S (a.iv.hi.den:Int))] 32)∧Row X (w.heap.size+1+1) (.cells #[.int .i64 (b.t:Int),.string (S b.iv.lo.num),.string (S (b.iv.lo.den:Int)),.string (S b.iv.hi.num),.string (S (b.iv.hi.den:Int))] 32)∧Row X W2.heap.size (.cells #[.string (S f.num),.string (S (f.den:Int))] 23)) ⟨BW,RWh,RWh,RWh⟩ ?_
 clear ra
 clear sa
 clear rb
 clear sb
 clear hB sB
 rintro V3 ⟨hB,ra,rb,rd⟩
 have sa:=RF5 ra
 have sb:=RF5 rb
 have sd:=RFz2 rd
 refine (MU _).mono ?_
 rintro e W4 ⟨rfl,h1⟩
 have st:=St3 hB h1 ra rb rd;clear hB h1 ra sa rb sb rd sd
 obtain ⟨hB,ra,rb,rd⟩:=st
 have sa:=RF5 ra
 have sb:=RF5 rb
 have sd:=RFz2 rd
 go_wp2_with fail
 have dd_up:W2.heap.size<W4.heap.size:=by omega
 have d0_up:w.heap.size≤W4.heap.size:=by have:=hB.size;omega
 have sB:=hB.size
 refine world_cut (fun X=>Below w.heap.size w X∧Row X W2.heap.size (.cells #[.string (S f.num),.string (S (f.den:Int))] 23)∧Row X W4.heap.size (.cells #[.string (S u.num),.string (S (u.den:Int))] 23)) ⟨BW,RWh,RWh⟩ ?_
 clear ra
 clear sa
 clear rb
 clear sb
 clear rd
 clear sd
 clear hB sB
 rintro V5 ⟨hB,rd,rup⟩
 have sd:=RFz2 rd
 have sup:=RFz2 rup
 refine (MV _).mono ?_
 rintro e W6 ⟨rfl,h1⟩
 have st:=St2 hB h1 rd rup;clear hB h1 rd sd rup sup
 obtain ⟨hB,rd,rup⟩:=st
 have sd:=RFz2 rd
 have sup:=RFz2 rup
 go_wp2_with fail
 have dd_dn:W2.heap.size<W6.heap.size:=by omega
 have d0_dn:w.heap.size≤W6.heap.size:=by have:=hB.size;omega
 have sB:=hB.size
 refine world_cut (fun X=>Below w.heap.size w X∧Row X W2.heap.size (.cells #[.string (S f.num),.string (S (f.den:Int))] 23)∧Row X W6.heap.size (.cells #[.string (S v.num),.string (S (v.den:Int))] 23)) ⟨BW,RWh,RWh⟩ ?_
 clear rd
 clear sd
 clear rup
 clear sup
 clear hB sB
 rintro V7 ⟨hB,rd,rdn⟩
 have sd:=RFz2 rd
 have sdn:=RFz2 rdn
 refine (MC _).mono ?_
 rintro e W8 ⟨rfl,h1⟩
 have st:=St2 hB h1 rd rdn;clear hB h1 rd sd rdn sdn
 obtain ⟨hB,rd,rdn⟩:=st
 have sd:=RFz2 rd
 have sdn:=RFz2 rdn
 go_wp2_with fail
 clear rd
 clear sd
 clear rdn
 clear sdn
 refine (MD _).mono ?_
 rintro e W9 ⟨rfl,h1⟩
 have st:=St0 hB h1;clear hB h1
 have hB:=st;clear st
 go_wp2
 refine bodyPost_ret (v := .tuple #[.bool (decide (0<c2)),.int .i64 0]) ?res rfl ⟨?_,hB⟩
 case res=>simp [results,Tryz.results54, go_sem];omega
 rw [show decide (contra r a b)=decide (0<c2) from decide_eq_decide.2 (HCON.out.trans ⟨fun h=>h.resolve_left (by omega),.inr⟩)]
 try rfl
theorem r12contra {r:Rat} {a b:Pt} (hr:QDig 40 r) (da:IDig 40 a.iv) (db:IDig 40 b.iv) (hab:a.t≤b.t) (hb:b.t≤1000000) (w:World):Calls Tryz.prog 54 #[Q r,.agg #[.int .i64 (a.t:Int),.string (S a.iv.lo.num),.string (S (a.iv.lo.den:Int)),.string (S a.iv.hi.num),.string (S (a.iv.hi.den:Int))],.agg #[.int .i64 (b.t:Int),.string (S b.iv.lo.num),.string (S (b.iv.lo.den:Int)),.string (S b.iv.hi.num),.string (S (b.iv.hi.den:Int))]] w (R12Con (decide (contra r a b)) w):=by
 by_cases hc:0<cmpQ (b.iv.lo - a.iv.hi) (far r (b.t - a.t))
 ·exact r12contra_yes hr da db hab hb hc w
 ·exact r12contra_no hr da db hab hb hc w
def WidOk (l h:Rat) (w:World) (e:Ending) (w':World):Prop:=e = .returned (.tuple #[.agg #[.string (S l.num),.string (S (l.den:Int)),.string (S h.num),.string (S (h.den:Int))],.int .i64 0])∧Below w.heap.size w w'
theorem r12widened {r:Rat} {q:Pt} {t:Nat} (hr:QDig 40 r) (dq:IDig 40 q.iv) (ht:t≤1000000) (hq:q.t≤1000000) (w:World):Calls Tryz.prog 55 #[Q r,.agg #[.int .i64 (q.t:Int),.string (S q.iv.lo.num),.string (S (q.iv.lo.den:Int)),.string (S q.iv.hi.num),.string (S (q.iv.hi.den:Int))],.int .i64 (t:Int)] w (WidOk (lowAt r t q) (highAt r t q) w):=by
 have hB:Below w.heap.size w w:=Below.refl _ _
 have dF:=far_dig hr (d:=dist t q.t) (dist_bound ht hq)
 have MR:=fun W=>r12reach (t:=dist t q.t) hr (dist_bound ht hq) (by omega) W
 have ML:=fun W=>rqsub dq.1 dF (by omega) W
 have MH:=fun W=>rqadd dq.2 dF (by omega) W
 have hif:=dist_max t q.t
 have hw1:IntKind.i64.wrap ((t:Int) - (q.t:Int))=(t:Int) - (q.t:Int):=by rw [IntKind.wrap_i64];omega
 have hw2:IntKind.i64.wrap ((q.t:Int) - (t:Int))=(q.t:Int) - (t:Int):=by rw [IntKind.wrap_i64];omega
 rw [show q.iv.lo - far r (dist t q.t)=lowAt r t q from rfl] at ML
 rw [show q.iv.hi+far r (dist t q.t)=highAt r t q from rfl] at MH
 unfold WidOk Q
 unfold QOk Q at MR ML MH
 generalize lowAt r t q=xl at *
 generalize highAt r t q=xh at *
 generalize far r (dist t q.t)=fr at *
 generalize dist t q.t=dd at *
 clear dF hr dq ht hq
 go_enter Tryz.func55, Tryz.ntmps55
 go_wp2_with fail
 have d0_o:w.heap.size≤w.heap.size+1+1:=by have:=hB.size;omega
 have sB:=hB.size
 refine world_cut (fun X=>Below w.heap.size w X∧Row X (w.heap.size+1) (.cells #[.int .i64 (q.t:Int),.string (S q.iv.lo.num),.string (S (q.iv.lo.den:Int)),.string (S q.iv.hi.num),.string (S (q.iv.hi.den:Int))] 32)∧Row X (w.heap.size+1+1) (.cells #[.string ⟨#[]⟩,.string ⟨#[]⟩,.string ⟨#[]⟩,.string ⟨#[]⟩] 30)) ⟨BW,RWh,RWh⟩ ?_
 clear hB sB
 rintro V1 ⟨hB,rq,ro⟩
 have sq:=RF5 rq
 have so:=RFz4 ro
 refine (MR _).mono ?_
 rintro e W2 ⟨rfl,h1⟩
 have st:=St2 hB h1 rq ro;clear hB h1 rq sq ro so
 obtain ⟨hB,rq,ro⟩:=st
 have sq:=RF5 rq
 have so:=RFz4 ro
 go_wp2_with fail
 have dq_d:w.heap.size+1<W2.heap.size:=by omega
 have do_d:w.heap.size+1+1<W2.heap.size:=by omega
 have d0_d:w.heap.size≤W2.heap.size:=by have:=hB.size;omega
 have sB:=hB.size
 refine world_cut (fun X=>Below w.heap.size w X∧Row X (w.heap.size+1) (.cells #[.int .i64 (q.t:Int),.string (S q.iv.lo.num),.string (S (q.iv.lo.den:Int)),.string (S q.iv.hi.num),.string (S (q.iv.hi.den:Int))] 32)∧Row X (w.heap.size+1+1) (.cells #[.string ⟨#[]⟩,.string ⟨#[]⟩,.string ⟨#[]⟩,.string ⟨#[]⟩] 30)∧Row X W2.heap.size (.cells #[.string (S fr.num),.string (S (fr.den:Int))] 23)) ⟨BW,RWh,RWh,RWh⟩ ?_
 clear rq
 clear sq
 clear ro
 clear so
 clear hB sB
 rintro V3 ⟨hB,rq,ro,rd⟩
 have sq:=RF5 rq
 have so:=RFz4 ro
 have sd:=RFz2 rd
 refine (ML _).mono ?_
 rintro e W4 ⟨rfl,h1⟩
 have st:=St3 hB h1 rq ro rd;clear hB h1 rq sq ro so rd sd
 obtain ⟨hB,rq,ro,rd⟩:=st
 have sq:=RF5 rq
 have so:=RFz4 ro
 have sd:=RFz2 rd
 go_wp2_with fail
 have do_lo:w.heap.size+1+1<W4.heap.size:=by omega
 have d0_lo:w.heap.size≤W4.heap.size:=by have:=hB.size;omega
 have sB:=hB.size
 refine world_cut (fun X=>Below w.heap.size w X∧Row X (w.heap.size+1+1) (.cells #[.string ⟨#[]⟩,.string ⟨#[]⟩,.string ⟨#[]⟩,.string ⟨#[]⟩] 30)∧Row X W4.heap.size (.cells #[.string (S xl.num),.string (S (xl.den:Int))] 23)) ⟨BW,RWh,RWh⟩ ?_
 clear rq
 clear sq
 clear ro
 clear so
 clear rd
 clear sd
 clear hB sB
 rintro V5 ⟨hB,ro,rlo⟩
 have so:=RFz4 ro
 have slo:=RFz2 rlo
 refine (MH _).mono ?_
 rintro e W6 ⟨rfl,h1⟩
 have st:=St2 hB h1 ro rlo;clear hB h1 ro so rlo slo
 obtain ⟨hB,ro,rlo⟩:=st
 have so:=RFz4 ro
 have slo:=RFz2 rlo
 go_wp2_with fail
 have sB:=hB.size
 refine post_cut (fun X=>Below w.heap.size w X∧Row X (w.heap.size+1+1) (.cells #[.string (S xl.num),.string (S (xl.den:Int)),.string (S xh.num),.string (S (xh.den:Int))] 30)) ⟨BW,RWh⟩ ?_
 clear ro
 clear so
 clear rlo
 clear slo
 clear hB sB
 rintro V7 ⟨hB,ro⟩
 have so:=RFz4 ro
 refine bodyPost_ret (v := .tuple #[.agg #[.string (S xl.num),.string (S (xl.den:Int)),.string (S xh.num),.string (S (xh.den:Int))],.int .i64 0]) ?res rfl ⟨rfl,hB⟩
 case res=>simp [results,Tryz.results55, go_sem,so]
end Go.Proofs.YtnokpldomlmamaaGreatDoor
namespace Go.Proofs.YtnokpldomlmamaaGreatDoor
open Go Go.RowKit Go.Lib Go.Shelf
attribute [local go_sem] Oper.semAt_some normalQ
def AtErr (w:World) (e:Ending) (w':World):Prop:=e = .returned (.tuple #[.agg #[.string ⟨#[]⟩,.string ⟨#[]⟩,.string ⟨#[]⟩,.string ⟨#[]⟩],.int .i64 120])∧Below w.heap.size w w'
theorem dat_empty {r:Rat} (ho:Hist.Ok ⟨r,[]⟩) (t:Int) (p:Option Addr) (c:Nat) (w:World) (hp:PAt w p []) (he:Env w):Calls Tryz.prog 11 #[.agg #[.string (S r.num),.string (S (r.den:Int)),.slice p 0 c],.int .i64 t] w (AtErr w):=by
 have hB:Below w.heap.size w w:=Below.refl _ _
 have MV:=fun W (hp:PAt W p []) (H:Env W)=>dvalid ho p 0 c rfl W hp H
 unfold BoolOk HV at MV
 simp only at MV
 have HP:=Lib.hid hp
 clear ho hp
 unfold AtErr
 go_enter Tryz.func11, Tryz.ntmps11
 go_wp2_with fail
 have d0_o:w.heap.size≤w.heap.size+1:=by have:=hB.size;omega
 have d0_e:w.heap.size≤w.heap.size+1+1:=by have:=hB.size;omega
 have sB:=hB.size
 refine world_cut (fun X=>Below w.heap.size w X∧Row X w.heap.size (.cells #[.string (S r.num),.string (S (r.den:Int)),.slice p 0 c] 26)∧Row X (w.heap.size+1) (.cells #[.string ⟨#[]⟩,.string ⟨#[]⟩,.string ⟨#[]⟩,.string ⟨#[]⟩] 30)∧Row X (w.heap.size+1+1) (.cells #[.int .i64 0] 40)) ⟨BW,RWh,RWh,RWh⟩ ?_
 clear hB sB
 rintro V1 ⟨hB,rh,ro,re⟩
 have sh:=RF3 rh
 have so:=RFz4 ro
 have se:=RFz1 re
 refine (MV _ (HP.out.below hB) (he.below hB)).mono ?_
 rintro e W2 ⟨rfl,h1⟩
 clear sh
 clear so
 clear se
 replace hB:=hB.trans (h1.mono hB.size)
 replace rh:=Row.below rh h1
 replace ro:=Row.below ro h1
 replace re:=Row.below re h1
 clear h1
 have sh:=RF3 rh
 have so:=RFz4 ro
 have se:=RFz1 re
 go_wp2_with fail
 skip
 have sB:=hB.size
 refine post_cut (fun X=>Below w.heap.size w X∧Row X (w.heap.size+1) (.cells #[.string ⟨#[]⟩,.string ⟨#[]⟩,.string ⟨#[]⟩,.string ⟨#[]⟩] 30)∧Row X (w.heap.size+1+1) (.cells #[.int .i64 120] 40)) ⟨BW,RWh,RWh⟩ ?_
 clear rh
 clear sh
 clear ro
 clear so
 clear re
 clear se
 clear hB sB
 rintro V3 ⟨hB,ro,re⟩
 have so:=RFz4 ro
 skip
 have se:=RFz1 re
 refine bodyPost_ret (v := .tuple #[.agg #[.string ⟨#[]⟩,.string ⟨#[]⟩,.string ⟨#[]⟩,.string ⟨#[]⟩],.int .i64 120]) ?res rfl ⟨rfl,hB⟩
 case res=>simp [results,Tryz.results11, go_sem,so,se]
theorem dat_low {r:Rat} {l:List Pt} (ho:Hist.Ok ⟨r,l⟩) {t:Int} (ht:t<0) (p:Option Addr) (m c:Nat) (hm:l.length=m) (hpos:0<m) (w:World) (hp:PAt w p l) (he:Env w):Calls Tryz.prog 11 #[.agg #[.string (S r.num),.string (S (r.den:Int)),.slice p m c],.int .i64 t] w (AtErr w):=by
 have hB:Below w.heap.size w w:=Below.refl _ _
 have MV:=fun W (hp:PAt W p l) (H:Env W)=>dvalid ho p m c hm W hp H
 unfold BoolOk HV at MV
 simp only at MV
 have HP:=Lib.hid hp
 clear ho hp
 have hm0:¬ ((m:Int)=0):=by omega
 have ht0:decide (t<0)=true:=decide_eq_true ht
 clear hm ht hpos
 unfold AtErr
 go_enter Tryz.func11, Tryz.ntmps11
 go_wp2_with fail
 have d0_o:w.heap.size≤w.heap.size+1:=by have:=hB.size;omega
 have d0_e:w.heap.size≤w.heap.size+1+1:=by have:=hB.size;omega
 have sB:=hB.size
 refine world_cut (fun X=>Below w.heap.size w X∧Row X w.heap.size (.cells #[.string (S r.num),.string (S (r.den:Int)),.slice p m c] 26)∧Row X (w.heap.size+1) (.cells #[.string ⟨#[]⟩,.string ⟨#[]⟩,.string ⟨#[]⟩,.string ⟨#[]⟩] 30)∧Row X (w.heap.size+1+1) (.cells #[.int .i64 0] 40)) ⟨BW,RWh,RWh,RWh⟩ ?_
 clear hB sB
 rintro V1 ⟨hB,rh,ro,re⟩
 have sh:=RF3 rh
 have so:=RFz4 ro
 have se:=RFz1 re
 refine (MV _ (HP.out.below hB) (he.below hB)).mono ?_
 rintro e W2 ⟨rfl,h1⟩
 clear sh
 clear so
 clear se
 replace hB:=hB.trans (h1.mono hB.size)
 replace rh:=Row.below rh h1
 replace ro:=Row.below ro h1
 replace re:=Row.below re h1
 clear h1
 have sh:=RF3 rh
 have so:=RFz4 ro
 have se:=RFz1 re
 go_wp2_with fail
 skip
 have sB:=hB.size
 refine post_cut (fun X=>Below w.heap.size w X∧Row X (w.heap.size+1) (.cells #[.string ⟨#[]⟩,.string ⟨#[]⟩,.string ⟨#[]⟩,.string ⟨#[]⟩] 30)∧Row X (w.heap.size+1+1) (.cells #[.int .i64 120] 40)) ⟨BW,RWh,RWh⟩ ?_
 clear rh
 clear sh
 clear ro
 clear so
 clear re
 clear se
 clear hB sB
 rintro V3 ⟨hB,ro,re⟩
 have so:=RFz4 ro
 skip
 have se:=RFz1 re
 refine bodyPost_ret (v := .tuple #[.agg #[.string ⟨#[]⟩,.string ⟨#[]⟩,.string ⟨#[]⟩,.string ⟨#[]⟩],.int .i64 120]) ?res rfl ⟨rfl,hB⟩
 case res=>simp [results,Tryz.results11, go_sem,so,se]
theorem dat_high {r:Rat} {l:List Pt} (ho:Hist.Ok ⟨r,l⟩) {t:Int} (ht:1000000<t) (p:Option Addr) (m c:Nat) (hm:l.length=m) (hpos:0<m) (w:World) (hp:PAt w p l) (he:Env w):Calls Tryz.prog 11 #[.agg #[.string (S r.num),.string (S (r.den:Int)),.slice p m c],.int .i64 t] w (AtErr w):=by
 have hB:Below w.heap.size w w:=Below.refl _ _
 have MV:=fun W (hp:PAt W p l) (H:Env W)=>dvalid ho p m c hm W hp H
 unfold BoolOk HV at MV
 simp only at MV
 have HP:=Lib.hid hp
 clear ho hp
 have hm0:¬ ((m:Int)=0):=by omega
 have ht0:decide (t<0)=false:=decide_eq_false (by omega)
 have ht1:decide (1000000<t)=true:=decide_eq_true ht
 clear hm ht hpos
 unfold AtErr
 go_enter Tryz.func11, Tryz.ntmps11
 go_wp2_with fail
 have d0_o:w.heap.size≤w.heap.size+1:=by have:=hB.size;omega
 have d0_e:w.heap.size≤w.heap.size+1+1:=by have:=hB.size;omega
 have sB:=hB.size
 refine world_cut (fun X=>Below w.heap.size w X∧Row X w.heap.size (.cells #[.string (S r.num),.string (S (r.den:Int)),.slice p m c] 26)∧Row X (w.heap.size+1) (.cells #[.string ⟨#[]⟩,.string ⟨#[]⟩,.string ⟨#[]⟩,.string ⟨#[]⟩] 30)∧Row X (w.heap.size+1+1) (.cells #[.int .i64 0] 40)) ⟨BW,RWh,RWh,RWh⟩ ?_
 clear hB sB
 rintro V1 ⟨hB,rh,ro,re⟩
 have sh:=RF3 rh
 have so:=RFz4 ro
 have se:=RFz1 re
 refine (MV _ (HP.out.below hB) (he.below hB)).mono ?_
 rintro e W2 ⟨rfl,h1⟩
 clear sh
 clear so
 clear se
 replace hB:=hB.trans (h1.mono hB.size)
 replace rh:=Row.below rh h1
 replace ro:=Row.below ro h1
 replace re:=Row.below re h1
 clear h1
 have sh:=RF3 rh
 have so:=RFz4 ro
 have se:=RFz1 re
 go_wp2_with fail
 skip
 have sB:=hB.size
 refine post_cut (fun X=>Below w.heap.size w X∧Row X (w.heap.size+1) (.cells #[.string ⟨#[]⟩,.string ⟨#[]⟩,.string ⟨#[]⟩,.string ⟨#[]⟩] 30)∧Row X (w.heap.size+1+1) (.cells #[.int .i64 120] 40)) ⟨BW,RWh,RWh⟩ ?_
 clear rh
 clear sh
 clear ro
 clear so
 clear re
 clear se
 clear hB sB
 rintro V3 ⟨hB,ro,re⟩
 have so:=RFz4 ro
 skip
 have se:=RFz1 re
 refine bodyPost_ret (v := .tuple #[.agg #[.string ⟨#[]⟩,.string ⟨#[]⟩,.string ⟨#[]⟩,.string ⟨#[]⟩],.int .i64 120]) ?res rfl ⟨rfl,hB⟩
 case res=>simp [results,Tryz.results11, go_sem,so,se]
def cCells (l:List (Nat × Nat)):List Value:=l.flatMap fun x=>[.int .i64 (x.1:Int),.int .i64 (x.2:Int)]
theorem cCells_snoc (l:List (Nat × Nat)) (x:Nat × Nat):cCells (l ++ [x])=cCells l ++ [.int .i64 (x.1:Int),.int .i64 (x.2:Int)]:=by unfold cCells;simp
theorem pairInfo:(Tryz.prog.info? 27).map (fun i=>(i.zero,i.size,i.bytes))=some (some (.agg #[.int .i64 0,.int .i64 0]),2,16):=by kernel_rfl
theorem own_kept {n₀:Nat} {T:TypeId} {k n:Nat} {v:Value} {xs:List Value} {A B:World} {row:Option Nat} (h:A.ownsRow n₀ T k v n xs) (hg:A.grownBy B row) (hr:∀ r,row=some r→∃ o:Obj,A.heap[r]? = some o∧o.isCells=false):B.ownsRow n₀ T k v n xs :=
 ⟨h.1,h.2.elim .inl fun ⟨g,cap,cur,e1,hb,h2,h3⟩ => .inr ⟨g,cap,cur,e1,hb,(hg.block g (Array.getElem?_eq_some_iff.1 h2).1 (fun e=>by
  obtain ⟨o,ho,hc⟩:=hr g e.symm
  rw [h2] at ho;cases ho;cases hc)).trans h2,h3⟩⟩
theorem KpP.append {n₀ n₁:Nat} {T:TypeId} {k n:Nat} {v:Value} {xs:List Value} {A B:World} (h:A.ownsRow n₀ T k v n xs) (hg:A.grownBy B v.ownBlock) (h1:T ≠ 26) (h2:T ≠ 32) (hn:n₁≤n₀) (hs:n₁≤A.heap.size):KpP n₁ A B:=by
 rcases h.2 with ⟨e1,_⟩ | ⟨g,cap,cur,e1,hb,e2,_⟩
 ·rw [e1] at hg
  exact ⟨(Below.refl _ _).grown hg hs (fun k e=>by simp [Value.ownBlock] at e),fun k _ _ hk _=>hg.block k (Array.getElem?_eq_some_iff.1 hk).1 (fun e=>by simp [Value.ownBlock] at e)⟩
 ·rw [e1] at hg
  exact KpP.grown (b:=g) hg ⟨(Array.getElem?_eq_some_iff.1 e2).1,e2⟩ h1 h2 (by omega) hs
theorem keepsOthers_append {n₀:Nat} {T:TypeId} {k n:Nat} {v:Value} {xs:List Value} {A B:World} (h:A.ownsRow n₀ T k v n xs) (hg:A.grownBy B v.ownBlock):KeepsOthers A B:=by
 refine KeepsOthers.of_grownBy hg fun j o hj ho => ?_
 rcases h.2 with ⟨e1,_⟩ | ⟨g,cap,cur,e1,hb,e2,_⟩
 ·rw [e1] at hj;simp [Value.ownBlock] at hj
 ·rw [e1] at hj
  simp [Value.ownBlock] at hj
  subst hj
  rw [e2] at ho;cases ho;rfl
theorem row_append {n₀:Nat} {T T':TypeId} {k n b:Nat} {v:Value} {xs:List Value} {vs:Array Value} {A B:World} (h:A.ownsRow n₀ T k v n xs) (hg:A.grownBy B v.ownBlock) (r:Row A b (.cells vs T')) (hne:T'≠T):Row B b (.cells vs T'):=by
 refine ⟨Nat.lt_of_lt_of_le r.1 hg.size,(hg.block b r.1 fun e => ?_).trans r.2⟩
 rcases h.2 with ⟨e1,_⟩ | ⟨g,cap,cur,e1,hb,e2,_⟩
 ·rw [e1] at e;simp [Value.ownBlock] at e
 ·rw [e1] at e
  simp [Value.ownBlock] at e
  subst e
  have:=r.2.symm.trans e2
  simp at this
  exact hne this.2
theorem own_other {n₀:Nat} {T T':TypeId} {k n b:Nat} {v:Value} {xs:List Value} {vs:Array Value} {A:World} (h:A.ownsRow n₀ T k v n xs) (r:Row A b (.cells vs T')) (hne:T'≠T) (i:Nat) (u:Value):(A.setCell ⟨b,i,none⟩ u).ownsRow n₀ T k v n xs :=
 ownsRow_setCell_other h (a:=⟨b,i,none⟩) (fun e=>by
  rcases h.2 with ⟨e1,_⟩ | ⟨g,cap,cur,e1,hb,e2,_⟩
  ·rw [e1] at e;simp [Value.ownBlock] at e
  ·rw [e1] at e
   simp [Value.ownBlock] at e
   subst e
   have:=r.2.symm.trans e2
   simp at this
   exact hne this.2) u
theorem dcons {r:Rat} {l:List Pt} (ho:Hist.Ok ⟨r,l⟩) (p:Option Addr) (m c:Nat) (hm:l.length=m) (w:World) (hp:PAt w p l) (he:Env w) :
  Calls Tryz.prog 20 #[.agg #[.string (S r.num),.string (S (r.den:Int)),.slice p m c]] w fun e w'=>∃ v,w'.ownsRow w.heap.size 27 2 v (cons ⟨r,l⟩).length (cCells (cons ⟨r,l⟩))∧e = .returned v∧Below w.heap.size w w':=by
 have hB:Below w.heap.size w w:=Below.refl _ _
 have MV:=fun W (hp:PAt W p l) (H:Env W)=>dvalid ho p m c hm W hp H
 have MP:=fun W=>dpairs r p m c W
 have HP:=Lib.hid hp
 have HO:=Lib.hid ho
 have HM:=Lib.hid hm
 unfold BoolOk HV at MV
 simp only at MV
 obtain ⟨i0,hi,hz0,hz1,hz2⟩:=info_parts pairInfo
 clear ho hm hp
 refine calls_marks Tryz.func20 rfl fun Q0 HQ0 => ?_
 simp only [Tryz.ntmps20, List.size_toArray,List.length_cons,List.length_nil,Nat.reduceAdd,Nat.reduceSub,Array.replicate_succ,Array.replicate_zero,List.push_toArray,List.append_toArray,List.nil_append,List.cons_append]
 go_wp2_with fail
 have d0_o:w.heap.size≤w.heap.size+1:=by have:=hB.size;omega
 have sB:=hB.size
 refine world_cut (fun X=>Below w.heap.size w X∧Row X w.heap.size (.cells #[.string (S r.num),.string (S (r.den:Int)),.slice p m c] 26)∧Row X (w.heap.size+1) (.cells #[.slice none 0 0] 49)) ⟨BW,RWh,RWh⟩ ?_
 clear hB sB
 rintro V1 ⟨hB,rh,ro⟩
 have sh:=RF3 rh
 have so:=RFz1 ro
 refine (MV _ (HP.out.below hB) (he.below hB)).mono ?_
 rintro e W2 ⟨rfl,h1⟩
 clear sh
 clear so
 replace hB:=hB.trans (h1.mono hB.size)
 replace rh:=Row.below rh h1
 replace ro:=Row.below ro h1
 clear h1
 have sh:=RF3 rh
 have so:=RFz1 ro
 go_wp2_with fail
 refine (MP _).mono ?_
 rintro e W3 ⟨pb,rfl,hpb,rpb,h1⟩
 clear sh
 clear so
 replace hB:=hB.trans (h1.mono hB.size)
 replace rh:=Row.below rh h1
 replace ro:=Row.below ro h1
 clear h1
 have sh:=RF3 rh
 have so:=RFz1 ro
 have spb:=RF3 rpb
 go_wp2_with fail
 have sB:=hB.size
 refine (wpIn_wide (n:=3)).1 ?_
 refine wpIn_rangeFunc_ownH rfl (by omega) (gf := 130) (lb:=#[.pointer (some ⟨pb,0,none⟩)]) rfl trivial (enters_of Tryz.func130 (by kernel_rfl) rfl)
  (pairs_stops HO.out 2 (by omega) pb p m c HM.out w W3 he hB rpb (HP.out.below hB)) KpP.trans (KpP.book hB.size) (Below.refl _ _) (fun _=>rfl)
  (fun (pre:List (Nat × Nat)) W=>((∃ v,Row W (w.heap.size+1) (.cells #[v] 49)∧W.ownsRow w.heap.size 27 2 v pre.length (cCells pre))∧Below w.heap.size w W))
  (fun _ _ _=>False)
  (OwnFrom.and (fun s A B row hs hg hr=>by obtain ⟨v,h1,h2⟩:=hs;exact ⟨v,ownFrom_row (β:=Unit) _ _ _ _ () A B row h1 hg hr,own_kept h2 hg (fun r e=>(hr r e).2)⟩) (ownFrom_below (Nat.le_refl _) (by omega)))
  (fun _ _ _ _ _ hs _ _=>hs)
  ⟨⟨_,ro,⟨rfl,.inl ⟨rfl,rfl⟩⟩⟩,hB⟩
  (fun x a' W=>∃ Bx,w.heap.size+1<Bx∧Row W Bx (.cells #[.int .i64 (x.1:Int),.int .i64 (x.2:Int)] 27)∧a'=(⟨#[.agg #[.string (S r.num),.string (S (r.den:Int)),.slice p m c],.pointer (some ⟨w.heap.size,0,none⟩),.pointer (some ⟨w.heap.size+1,0,none⟩),.pointer (some ⟨Bx,0,none⟩),.bool true,.agg #[.string (S r.num),.string (S (r.den:Int)),.slice p m c],.bool true,.bool false,.agg #[.string (S r.num),.string (S (r.den:Int)),.slice p m c],.func (.func 130) #[] #[.pointer (some ⟨pb,0,none⟩)],.agg #[.int .i64 (x.1:Int),.int .i64 (x.2:Int)],.bool true,undef,undef,undef,undef,undef,undef],[]⟩:Act))
  (fun x a' s A B row hs hg hr=>by obtain ⟨Bx,h0,h1,h2⟩:=hs;exact ⟨Bx,h0,ownFrom_row (β:=Unit) _ _ _ _ () A B row h1 hg hr,h2⟩)
  ?assign ?body ?done ?stop
 case assign =>
  have hob:=ro.1
  rintro q pre x W K ⟨⟨v,ro2,hown⟩,hB2⟩ hK
  have hBx:w.heap.size+1<W.heap.size:=ro2.1
  have hsW:=hB2.size
  unfold encP
  gi_wp2
  refine hK _ _ ?kf ?kp ⟨⟨v,RWh,OW⟩,BW⟩ ⟨W.heap.size,hBx,RWh,rfl⟩
  case kf=>repeat (first | exact KeepsFrom.refl _ _ | refine KeepsFrom.trans ?_ ((KeepsOthers.setCell _ _ _).from _) | refine KeepsFrom.trans ?_ ((KeepsOthers.alloc _ _).from _))
  case kp=>exact KpP.of_below BW (by omega)
 case body =>
  rintro q pre x a' W hl2 ⟨rr,hrr⟩ ⟨⟨v,ro2,hown⟩,hB2⟩ ⟨Bx,hBx,rx,rfl⟩ hlt
  clear hB sB rh ro rpb sh so spb
  have hsW:=hB2.size
  have co:=Row.cell_at ro2 0 rfl
  have cx0:=Row.cell_at rx 0 rfl
  have cx1:=Row.cell_at rx 1 rfl
  obtain ⟨A0,c0,rfl⟩:=own_slice hown
  gi_wp2_with (gi_at_builtin;refine wpListIn_append_own _ rfl (.tmp 13) (.tmp 15) 49 rfl w.heap.size 27 i0 (.agg #[.int .i64 0,.int .i64 0]) 2 16 Tryz.underlying49 hi hz0 hz1 hz2 rfl (by decide) (.slice A0 pre.length c0) pre.length (cCells pre) rfl (hown.alloc _) ⟨W.heap.size,0,none⟩ 1 1 [.int .i64 (x.1:Int),.int .i64 (x.2:Int)] rfl rfl ?oe ?of ?og ?oh ?oi ?oj)
  case oe=>intro j u hu;rw [Addr.add_lit];exact Row.cell_at (row_new _ _) _ (by simpa using hu)
  case of=>simp [Value.oneCell']
  case og=>unfold maxLen;omega
  case oh=>omega
  case oi=>simp;omega
  intro v' W1 hown1 hg1 _
  obtain ⟨A1,c1,rfl⟩:=own_slice hown1
  have hk1:=KpP.append (n₁:=w.heap.size) (hown.alloc _) hg1 (by decide) (by decide) (Nat.le_refl _) (by simp;omega)
  have hk2:=keepsOthers_append (hown.alloc _) hg1
  have ro3:=row_append (hown.alloc _) hg1 (ro2.alloc _) (by decide)
  have co3:=Row.cell_at ro3 0 rfl
  have fo3:=frozen_of_row _ _ 0 _ _ ro3.2
  have so3:=ro3.1
  have hka:=KpP.of_below (n₀:=w.heap.size) ((Below.refl W.heap.size W).alloc (Nat.le_refl _) (.cells #[.int .i64 (x.1:Int),.int .i64 (x.2:Int)] 27)) (by omega)
  have hk3:=KpP.set (n₀:=w.heap.size) (i:=0) ro3 (by decide) (by decide) (by omega) (.slice A1 (pre.length+1) c1)
  have hkk:=(hka.trans hk1).trans hk3
  gi_wp2
  refine ⟨?kf,hkk,⟨⟨_,ro3.set_same rfl,?own⟩,hB2.trans hkk.below⟩⟩
  case kf=>exact ((((KeepsOthers.alloc _ _).trans hk2).trans (KeepsOthers.setCell _ _ _)).from _)
  case own=>rw [cCells_snoc,List.length_append];exact own_other hown1 ro3 (by decide) _ _
 case stop =>
  rintro D cd pre W hD _ h
  exact h.elim
 case done =>
  rintro DD ys W hD hys ⟨⟨v,ro2,hown⟩,hB2⟩ hKD
  subst hys
  have hVo:=ro.1
  have hDl:w.heap.size+1<DD:=Nat.lt_of_lt_of_le hVo hD
  clear hVo
  clear hB sB rh ro rpb sh so spb
  have hsW:=hB2.size
  have co:=Row.cell_at ro2 0 rfl
  have fo:=frozen_of_row _ _ 0 _ _ ro2.2
  obtain ⟨A0,c0,rfl⟩:=own_slice hown
  have rD:Row W DD (.deferred (some [])):=⟨(Array.getElem?_eq_some_iff.1 hKD).1,hKD⟩
  go_wp2_with fail
  rw [HQ0.out]
  refine postM_cut (fun X=>Below w.heap.size w X∧Row X (w.heap.size+1) (.cells #[.slice A0 (cons ⟨r,l⟩).length c0] 49)∧Row X DD (.deferred (some []))∧X.ownsRow w.heap.size 27 2 (.slice A0 (cons ⟨r,l⟩).length c0) (cons ⟨r,l⟩).length (cCells (cons ⟨r,l⟩))) ⟨BW,ro2.set_same rfl,RWh,own_other hown ro2 (by decide) _ _⟩ ?_
  rintro V ⟨hB,ro,rD,hown⟩
  replace ro:=Row.putObj (D:=DD) (o' := .deferred none) ro (by omega)
  have z0:=Row.cell_at ro 0 rfl
  refine marks_ret (v := .slice A0 (cons ⟨r,l⟩).length c0) rfl rD ?res ⟨_,ownsRow_putObj hown _ rD.2 rfl,rfl,below_putObj hB (by omega)⟩
  case res=>simp [results,Tryz.results20, go_sem,z0]
end Go.Proofs.YtnokpldomlmamaaGreatDoor
