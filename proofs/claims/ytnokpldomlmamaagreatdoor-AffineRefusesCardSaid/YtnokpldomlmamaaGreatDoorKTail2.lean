/-
 Package affine: isBetween, what is wrong with a term, Valid, whatever the strings and the numbers of sources. Regions that draw their order, make several new blocks, and end in stores: the new blocks lie apart, whatever the order.
-/
import Derived.Test.YtnokpldomlmamaaGreatDoorKAValid
import Derived.Test.YtnokpldomlmamaaGreatDoorKEValid
set_option linter.unusedSimpArgs false
set_option linter.unusedVariables false
set_option maxRecDepth 100000
set_option maxHeartbeats 16000000
namespace Go.Proofs.YtnokpldomlmamaaGreatDoor
open Go Go.RowKit Go.Lib Go.Shelf
/-- Two strings spell the fraction, or none. -/
def RK (a b:ByteArray) (o:Option Rat):Prop:=match o with
 | some q=>a=S q.num∧b=S (q.den:Int)∧QDig 200 q
 | none=>∀ W,Env W→Calls Tryz.prog 58 #[.agg #[.string a,.string b]] W (BoolOk false W)
theorem RK.of {q:Rat} (h:QDig 200 q):RK (S q.num) (S (q.den:Int)) (some q):=⟨rfl,rfl,h⟩
theorem RK.zero:RK ⟨#[]⟩ ⟨#[]⟩ none:=fun W _=>qvalid_zero W
theorem RK.valid {a b:ByteArray} {o:Option Rat} (h:RK a b o) (w:World) (he:Env w):Calls Tryz.prog 58 #[.agg #[.string a,.string b]] w (BoolOk o.isSome w):=by
 cases o with
 | none=>exact h w he
 | some q =>
  obtain ⟨rfl,rfl,hq⟩:=h
  exact qvalid q hq w he
def betB (lo hi:Rat):Option Rat→Bool
 | none=>false
 | some q=>decide (lo≤q) && decide (q≤hi)
theorem whole1:Rat.divInt 1 1=1:=by decide +kernel
theorem wholeM:Rat.divInt (-1) 1 = -1:=by decide +kernel
theorem dig1:QDig 200 1:=⟨by unfold Dig;decide,by unfold Dig;decide⟩
theorem digM:QDig 200 (-1):=⟨by unfold Dig;decide,by unfold Dig;decide⟩
theorem abet_none {a b:ByteArray} {lo hi:Int} (h:RK a b none) (w:World) (he:Env w):Calls Tryz.prog 90 #[.agg #[.string a,.string b],.int .i64 lo,.int .i64 hi] w (BoolOk false w):=by
 have hB:Below w.heap.size w w:=Below.refl _ _
 have FN:=fnum
 have MV:=fun W (H:Env W)=>(h:∀ W,Env W→_) W H
 unfold BoolOk at MV
 clear h
 unfold BoolOk
 go_enter Tryz.func90, Tryz.ntmps90
 go_wp2_with fail
 have sB:=hB.size
 refine wp_cut (fun X=>Below w.heap.size w X∧Row X w.heap.size (.cells #[.string a,.string b] 23)) ⟨BW,RWh⟩ ?_
 clear hB sB
 rintro V1 ⟨hB,rr⟩
 have sr:=RF2 rr
 refine wp_region_vals [.agg #[.string a,.string b],.bool false,.bool false,undef,undef,undef,undef,undef,undef,.bool false,.bool false,undef,undef,undef,undef,undef,undef,.bool false,.bool false] (by kernel_rfl) (by kernel_rfl) rfl (allVals.cons (qv1 fun X h=>RF2 (Row.below rr h)) (allVals.cons (qv2 fun X h=>MV X (he.below (hB.trans (h.mono hB.size)))) (allVals.cons qv0 (allVals.cons qv0 (allVals.cons qv0 (allVals.cons qv0 (allVals.cons qv0 (allVals.cons qv0 (allVals.cons qv0 (allVals.cons qv0 (allVals.cons qv0 (allVals.cons qv0 (allVals.cons qv0 (allVals.cons qv0 (allVals.cons qv0 (allVals.cons qv0 (allVals.cons qv0 (allVals.cons qv0 (allVals.cons qv0 trivial))))))))))))))))))) ?_
 rintro W h1
 have stp:=St1 hB h1 rr;clear hB h1 rr sr
 obtain ⟨hB,rr⟩:=stp
 have sr:=RF2 rr
 simp only [setVals,List.setIfInBounds_toArray,List.set_cons_succ,List.set_cons_zero]
 go_wp2
 go_ret
 exact ⟨rfl,hB⟩
theorem abet_low {lo hi:Int} {ql qh:Rat} (hlo:IsInt lo) (hhi:IsInt hi) (eql:Rat.divInt lo 1=ql) (eqh:Rat.divInt hi 1=qh) (dl:QDig 200 ql) (dh:QDig 200 qh) {q:Rat} (hq:QDig 200 q) (h:¬ ql≤q) (w:World) (he:Env w):Calls Tryz.prog 90 #[Q q,.int .i64 lo,.int .i64 hi] w (BoolOk false w):=by
 have hB:Below w.heap.size w w:=Below.refl _ _
 have FN:=fnum
 have ML:=fun W (H:Env W)=>awhole hlo eql W H
 have MH:=fun W (H:Env W)=>awhole hhi eqh W H
 have M1:=fun W (H:Env W)=>qcompare q ql hq dl W H
 have M2:=fun W (H:Env W)=>qcompare q qh hq dh W H
 have MV:=fun W (H:Env W)=>qvalid q hq W H
 unfold QIs at ML MH
 unfold CmpOk at M1 M2
 unfold BoolOk at MV
 unfold Q at *
 generalize hc1:cmpQ q ql=c1 at *
 generalize hc2:cmpQ q qh=c2 at *
 have c1d:decide (0≤c1)=false:=decide_eq_false (fun e=>h (cmpQ_ge.1 (hc1 ▸ e)))
 clear hc1 hc2 h eql eqh dl dh hq M2 MH
 unfold BoolOk
 go_enter Tryz.func90, Tryz.ntmps90
 go_wp2_with fail
 have sB:=hB.size
 refine wp_cut (fun X=>Below w.heap.size w X∧Row X w.heap.size (.cells #[.string (S q.num),.string (S (q.den:Int))] 23)) ⟨BW,RWh⟩ ?_
 clear hB sB
 rintro V1 ⟨hB,rr⟩
 have sr:=RF2 rr
 refine wp_region_vals [.agg #[.string (S q.num),.string (S (q.den:Int))],.bool true,.bool true,.agg #[.string (S q.num),.string (S (q.den:Int))],.int .i64 lo,.agg #[.string (S ql.num),.string (S (ql.den:Int))],.agg #[.string (S ql.num),.string (S (ql.den:Int))],.int .i64 c1,.bool false,.bool false,.bool false,undef,undef,undef,undef,undef,undef,.bool false,.bool false] (by kernel_rfl) (by kernel_rfl) rfl (allVals.cons (qv1 fun X h=>RF2 (Row.below rr h)) (allVals.cons (qv2 fun X h=>MV X (he.below (hB.trans (h.mono hB.size)))) (allVals.cons qv0 (allVals.cons (qv1 fun X h=>RF2 (Row.below rr h)) (allVals.cons qv0 (allVals.cons (qv2 fun X h=>ML X (he.below (hB.trans (h.mono hB.size)))) (allVals.cons (qvf FN) (allVals.cons (qv2 fun X h=>M1 X (he.below (hB.trans (h.mono hB.size)))) (allVals.cons (qvf c1d) (allVals.cons qv0 (allVals.cons qv0 (allVals.cons qv0 (allVals.cons qv0 (allVals.cons qv0 (allVals.cons qv0 (allVals.cons qv0 (allVals.cons qv0 (allVals.cons qv0 (allVals.cons qv0 trivial))))))))))))))))))) ?_
 rintro W h1
 have stp:=St1 hB h1 rr;clear hB h1 rr sr
 obtain ⟨hB,rr⟩:=stp
 have sr:=RF2 rr
 simp only [setVals,List.setIfInBounds_toArray,List.set_cons_succ,List.set_cons_zero]
 go_wp2
 go_ret
 exact ⟨rfl,hB⟩
theorem abet_in {lo hi:Int} {ql qh:Rat} (hlo:IsInt lo) (hhi:IsInt hi) (eql:Rat.divInt lo 1=ql) (eqh:Rat.divInt hi 1=qh) (dl:QDig 200 ql) (dh:QDig 200 qh) {q:Rat} (hq:QDig 200 q) (h:ql≤q) (w:World) (he:Env w):Calls Tryz.prog 90 #[Q q,.int .i64 lo,.int .i64 hi] w (BoolOk (decide (q≤qh)) w):=by
 have hB:Below w.heap.size w w:=Below.refl _ _
 have FN:=fnum
 have ML:=fun W (H:Env W)=>awhole hlo eql W H
 have MH:=fun W (H:Env W)=>awhole hhi eqh W H
 have M1:=fun W (H:Env W)=>qcompare q ql hq dl W H
 have M2:=fun W (H:Env W)=>qcompare q qh hq dh W H
 have MV:=fun W (H:Env W)=>qvalid q hq W H
 unfold QIs at ML MH
 unfold CmpOk at M1 M2
 unfold BoolOk at MV
 unfold Q at *
 generalize hc1:cmpQ q ql=c1 at *
 generalize hc2:cmpQ q qh=c2 at *
 have c1d:decide (0≤c1)=true:=decide_eq_true (hc1 ▸ cmpQ_ge.2 h)
 have c2e:decide (q≤qh)=decide (c2≤0):=by rw [← hc2];exact decide_eq_decide.2 cmpQ_le.symm
 rw [c2e]
 generalize hbb:decide (c2≤0)=bb
 have c2d:=hbb
 clear hc1 hc2 h eql eqh dl dh hq c2e hbb
 unfold BoolOk
 go_enter Tryz.func90, Tryz.ntmps90
 go_wp2_with fail
 have sB:=hB.size
 refine wp_cut (fun X=>Below w.heap.size w X∧Row X w.heap.size (.cells #[.string (S q.num),.string (S (q.den:Int))] 23)) ⟨BW,RWh⟩ ?_
 clear hB sB
 rintro V1 ⟨hB,rr⟩
 have sr:=RF2 rr
 refine wp_region_vals [.agg #[.string (S q.num),.string (S (q.den:Int))],.bool true,.bool true,.agg #[.string (S q.num),.string (S (q.den:Int))],.int .i64 lo,.agg #[.string (S ql.num),.string (S (ql.den:Int))],.agg #[.string (S ql.num),.string (S (ql.den:Int))],.int .i64 c1,.bool true,.bool true,.bool true,.agg #[.string (S q.num),.string (S (q.den:Int))],.int .i64 hi,.agg #[.string (S qh.num),.string (S (qh.den:Int))],.agg #[.string (S qh.num),.string (S (qh.den:Int))],.int .i64 c2,.bool bb,.bool bb,.bool bb] (by kernel_rfl) (by kernel_rfl) rfl (allVals.cons (qv1 fun X h=>RF2 (Row.below rr h)) (allVals.cons (qv2 fun X h=>MV X (he.below (hB.trans (h.mono hB.size)))) (allVals.cons qv0 (allVals.cons (qv1 fun X h=>RF2 (Row.below rr h)) (allVals.cons qv0 (allVals.cons (qv2 fun X h=>ML X (he.below (hB.trans (h.mono hB.size)))) (allVals.cons (qvf FN) (allVals.cons (qv2 fun X h=>M1 X (he.below (hB.trans (h.mono hB.size)))) (allVals.cons (qvf c1d) (allVals.cons qv0 (allVals.cons qv0 (allVals.cons (qv1 fun X h=>RF2 (Row.below rr h)) (allVals.cons qv0 (allVals.cons (qv2 fun X h=>MH X (he.below (hB.trans (h.mono hB.size)))) (allVals.cons (qvf FN) (allVals.cons (qv2 fun X h=>M2 X (he.below (hB.trans (h.mono hB.size)))) (allVals.cons (qvf c2d) (allVals.cons qv0 (allVals.cons qv0 trivial))))))))))))))))))) ?_
 rintro W h1
 have stp:=St1 hB h1 rr;clear hB h1 rr sr
 obtain ⟨hB,rr⟩:=stp
 have sr:=RF2 rr
 simp only [setVals,List.setIfInBounds_toArray,List.set_cons_succ,List.set_cons_zero]
 go_wp2
 go_ret
 exact ⟨rfl,hB⟩
theorem abet {lo hi:Int} {ql qh:Rat} (hlo:IsInt lo) (hhi:IsInt hi) (eql:Rat.divInt lo 1=ql) (eqh:Rat.divInt hi 1=qh) (dl:QDig 200 ql) (dh:QDig 200 qh) {a b:ByteArray} {o:Option Rat} (h:RK a b o) (w:World) (he:Env w) :
  Calls Tryz.prog 90 #[.agg #[.string a,.string b],.int .i64 lo,.int .i64 hi] w (BoolOk (betB ql qh o) w):=by
 cases o with
 | none=>exact abet_none h w he
 | some q =>
  obtain ⟨rfl,rfl,hq⟩:=h
  show Calls Tryz.prog 90 _ w (BoolOk (decide (ql≤q) && decide (q≤qh)) w)
  by_cases hl:ql≤q
  ·rw [decide_eq_true hl,Bool.true_and];exact abet_in hlo hhi eql eqh dl dh hq hl w he
  ·rw [decide_eq_false hl,Bool.false_and];exact abet_low hlo hhi eql eqh dl dh hq hl w he
theorem avalue (x:RT) {o:Option Rat} (h:RK x.a x.b o) (w:World) (he:Env w):Calls Tryz.prog 89 #[uV x] w (BoolOk (!betB (-1) 1 o) w):=by
 have hB:Below w.heap.size w w:=Below.refl _ _
 have MB:=fun W (H:Env W)=>abet (lo:=(-1)) (hi:=1) (by decide) (by decide) wholeM whole1 digM dig1 h W H
 generalize betB (-1) 1 o=v at *
 unfold BoolOk uV at *
 clear h
 go_enter Tryz.func89, Tryz.ntmps89
 go_wp2_with fail
 have sB:=hB.size
 refine world_cut (fun X=>Below w.heap.size w X) BW ?_
 clear hB sB
 rintro V1 hB
 refine (MB _ (he.below hB)).mono ?_
 rintro e W2 ⟨rfl,h1⟩
 have stp:=St0 hB h1;clear hB h1
 have hB:=stp;clear stp
 go_wp2
 go_ret
 exact ⟨rfl,hB⟩
theorem avar (x:RT) {o:Option Rat} (h:RK x.a x.b o) (w:World) (he:Env w):Calls Tryz.prog 98 #[uV x] w (BoolOk (!betB (0) 1 o) w):=by
 have hB:Below w.heap.size w w:=Below.refl _ _
 have MB:=fun W (H:Env W)=>abet (lo:=0) (hi:=1) (by decide) (by decide) whole0 whole1 dig0 dig1 h W H
 generalize betB (0) 1 o=v at *
 unfold BoolOk uV at *
 clear h
 go_enter Tryz.func98, Tryz.ntmps98
 go_wp2_with fail
 have sB:=hB.size
 refine world_cut (fun X=>Below w.heap.size w X) BW ?_
 clear hB sB
 rintro V1 hB
 refine (MB _ (he.below hB)).mono ?_
 rintro e W2 ⟨rfl,h1⟩
 have stp:=St0 hB h1;clear hB h1
 have hB:=stp;clear stp
 go_wp2
 go_ret
 exact ⟨rfl,hB⟩
def wrongO:Option Rat→Bool
 | none=>true
 | some q=>decide (q=0)
theorem awrong_none (x:RT) (h:RK x.a x.b none) (w:World) (he:Env w):Calls Tryz.prog 105 #[uV x] w (BoolOk true w):=by
 have hB:Below w.heap.size w w:=Below.refl _ _
 have MB:=fun W (H:Env W)=>(h:∀ W,Env W→_) W H
 unfold BoolOk uV at *
 clear h
 go_enter Tryz.func105, Tryz.ntmps105
 go_wp2_with fail
 have sB:=hB.size
 refine world_cut (fun X=>Below w.heap.size w X∧Row X w.heap.size (.cells #[.int .i64 x.s,.string x.a,.string x.b] 62)) ⟨BW,RWh⟩ ?_
 clear hB sB
 rintro V1 ⟨hB,rx⟩
 have sx:=RF3 rx
 refine (MB _ (he.below hB)).mono ?_
 rintro e W2 ⟨rfl,h1⟩
 have stp:=St1 hB h1 rx;clear hB h1 rx sx
 obtain ⟨hB,rx⟩:=stp
 have sx:=RF3 rx
 go_wp2
 go_ret
 exact ⟨rfl,hB⟩
theorem awrong_some (s:Int) {q:Rat} (h:QDig 200 q) (w:World) (he:Env w):Calls Tryz.prog 105 #[.agg #[.int .i64 s,.string (S q.num),.string (S (q.den:Int))]] w (BoolOk (decide (q=0)) w):=by
 have hB:Below w.heap.size w w:=Below.refl _ _
 have MB:=fun W (H:Env W)=>qvalid q h W H
 have MZ:=fun W (H:Env W)=>nzero q W H
 generalize decide (q=0)=v at *
 unfold BoolOk Q at *
 clear h
 go_enter Tryz.func105, Tryz.ntmps105
 go_wp2_with fail
 have sB:=hB.size
 refine world_cut (fun X=>Below w.heap.size w X∧Row X w.heap.size (.cells #[.int .i64 s,.string (S q.num),.string (S (q.den:Int))] 62)) ⟨BW,RWh⟩ ?_
 clear hB sB
 rintro V1 ⟨hB,rx⟩
 have sx:=RF3 rx
 refine (MB _ (he.below hB)).mono ?_
 rintro e W2 ⟨rfl,h1⟩
 have stp:=St1 hB h1 rx;clear hB h1 rx sx
 obtain ⟨hB,rx⟩:=stp
 have sx:=RF3 rx
 go_wp2_with fail
 clear rx
 clear sx
 refine (MZ _ (he.below hB)).mono ?_
 rintro e W3 ⟨rfl,h1⟩
 have stp:=St0 hB h1;clear hB h1
 have hB:=stp;clear stp
 go_wp2
 go_ret
 exact ⟨rfl,hB⟩
theorem awrong (x:RT) {o:Option Rat} (h:RK x.a x.b o) (w:World) (he:Env w):Calls Tryz.prog 105 #[uV x] w (BoolOk (wrongO o) w):=by
 cases o with
 | none=>exact awrong_none x h w he
 | some q =>
  obtain ⟨ha,hb,hq⟩:=h
  unfold uV
  rw [ha,hb]
  exact awrong_some x.s hq w he
/-- What Valid says of a form: of its center's and its rest's fraction, of its terms and their fractions. -/
def vfB (oc orr:Option Rat) (ot:Nat→Option Rat) (l:List RT) (n:Nat):Bool :=
 oc.isSome && (orr.isSome && ((match orr with | some q=>decide (0≤q) | none=>false) && (decide (n≤64) && (decide (SrcU l) && !decide (∃ i,i<n∧wrongO (ot i)=true)))))
theorem avalid_0 {c1 c2 r1 r2:ByteArray} {l:List RT} {oc:Option Rat} (hc:RK c1 c2 oc) (p:Option Addr) (n c:Nat) (hn:l.length=n) (h1:oc.isSome=false)  (w:World) (hp:UAt 62 w p l) (he:Env w):Calls Tryz.prog 34 #[.agg #[.string c1,.string c2,.slice p n c,.string r1,.string r2]] w (BoolOk false w):=by
 have hB:Below w.heap.size w w:=Below.refl _ _
 have HP:=Lib.hid hp
 clear hp
 have MC:=fun W (H:Env W)=>hc.valid W H
 rw [h1] at MC
 unfold BoolOk at *
 clear hc h1
 go_enter Tryz.func34, Tryz.ntmps34
 go_wp2_with fail
 have sB:=hB.size
 refine world_cut (fun X=>Below w.heap.size w X∧Row X w.heap.size (.cells #[.string c1,.string c2,.slice p n c,.string r1,.string r2] 58)) ⟨BW,RWh⟩ ?_
 clear hB sB
 rintro V1 ⟨hB,rf⟩
 have sf:=RF5 rf
 refine (MC _ (he.below hB)).mono ?_
 rintro e W2 ⟨rfl,h1⟩
 have stp:=St1 hB h1 rf;clear hB h1 rf sf
 obtain ⟨hB,rf⟩:=stp
 have sf:=RF5 rf
 go_wp2
 go_ret
 exact ⟨rfl,hB⟩
theorem avalid_1 {c1 c2 r1 r2:ByteArray} {l:List RT} {oc:Option Rat} (hc:RK c1 c2 oc) {orr:Option Rat} (hr:RK r1 r2 orr) (p:Option Addr) (n c:Nat) (hn:l.length=n) (h1:oc.isSome=true) (h2:orr.isSome=false)  (w:World) (hp:UAt 62 w p l) (he:Env w):Calls Tryz.prog 34 #[.agg #[.string c1,.string c2,.slice p n c,.string r1,.string r2]] w (BoolOk false w):=by
 have hB:Below w.heap.size w w:=Below.refl _ _
 have HP:=Lib.hid hp
 clear hp
 have MC:=fun W (H:Env W)=>hc.valid W H
 rw [h1] at MC
 have MR:=fun W (H:Env W)=>hr.valid W H
 rw [h2] at MR
 unfold BoolOk at *
 clear hc h1 hr h2
 go_enter Tryz.func34, Tryz.ntmps34
 go_wp2_with fail
 have sB:=hB.size
 refine world_cut (fun X=>Below w.heap.size w X∧Row X w.heap.size (.cells #[.string c1,.string c2,.slice p n c,.string r1,.string r2] 58)) ⟨BW,RWh⟩ ?_
 clear hB sB
 rintro V1 ⟨hB,rf⟩
 have sf:=RF5 rf
 refine (MC _ (he.below hB)).mono ?_
 rintro e W2 ⟨rfl,h1⟩
 have stp:=St1 hB h1 rf;clear hB h1 rf sf
 obtain ⟨hB,rf⟩:=stp
 have sf:=RF5 rf
 go_wp2_with fail
 refine (MR _ (he.below hB)).mono ?_
 rintro e W3 ⟨rfl,h1⟩
 have stp:=St1 hB h1 rf;clear hB h1 rf sf
 obtain ⟨hB,rf⟩:=stp
 have sf:=RF5 rf
 go_wp2
 go_ret
 exact ⟨rfl,hB⟩
theorem avalid_2 {c1 c2:ByteArray} {l:List RT} {oc:Option Rat} (hc:RK c1 c2 oc) {q:Rat} (hq:QDig 200 q) (p:Option Addr) (n c:Nat) (hn:l.length=n) (h1:oc.isSome=true) (h3:¬ 0≤q)  (w:World) (hp:UAt 62 w p l) (he:Env w):Calls Tryz.prog 34 #[.agg #[.string c1,.string c2,.slice p n c,.string (S q.num),.string (S (q.den:Int))]] w (BoolOk false w):=by
 have hB:Below w.heap.size w w:=Below.refl _ _
 have HP:=Lib.hid hp
 clear hp
 have MC:=fun W (H:Env W)=>hc.valid W H
 rw [h1] at MC
 have MR:=fun W (H:Env W)=>qvalid q hq W H
 have MG:=fun W (H:Env W)=>nsign hq W H
 have h3d:decide (0≤cmpQ q 0)=false:=decide_eq_false (fun e=>h3 (cmpQ_ge.1 e))
 unfold CmpOk at MG
 generalize cmpQ q 0=g at *
 unfold BoolOk at *
 unfold Q at *
 clear hc h1 hq h3
 go_enter Tryz.func34, Tryz.ntmps34
 go_wp2_with fail
 have sB:=hB.size
 refine world_cut (fun X=>Below w.heap.size w X∧Row X w.heap.size (.cells #[.string c1,.string c2,.slice p n c,.string (S q.num),.string (S (q.den:Int))] 58)) ⟨BW,RWh⟩ ?_
 clear hB sB
 rintro V1 ⟨hB,rf⟩
 have sf:=RF5 rf
 refine (MC _ (he.below hB)).mono ?_
 rintro e W2 ⟨rfl,h1⟩
 have stp:=St1 hB h1 rf;clear hB h1 rf sf
 obtain ⟨hB,rf⟩:=stp
 have sf:=RF5 rf
 go_wp2_with fail
 refine (MR _ (he.below hB)).mono ?_
 rintro e W3 ⟨rfl,h1⟩
 have stp:=St1 hB h1 rf;clear hB h1 rf sf
 obtain ⟨hB,rf⟩:=stp
 have sf:=RF5 rf
 go_wp2_with fail
 refine (MG _ (he.below hB)).mono ?_
 rintro e W4 ⟨rfl,h1⟩
 have stp:=St1 hB h1 rf;clear hB h1 rf sf
 obtain ⟨hB,rf⟩:=stp
 have sf:=RF5 rf
 go_wp2
 go_ret
 exact ⟨rfl,hB⟩
theorem avalid_3 {c1 c2:ByteArray} {l:List RT} {oc:Option Rat} (hc:RK c1 c2 oc) {q:Rat} (hq:QDig 200 q) (p:Option Addr) (n c:Nat) (hn:l.length=n) (h1:oc.isSome=true) (h3:0≤q) (h4:¬ n≤64)  (w:World) (hp:UAt 62 w p l) (he:Env w):Calls Tryz.prog 34 #[.agg #[.string c1,.string c2,.slice p n c,.string (S q.num),.string (S (q.den:Int))]] w (BoolOk false w):=by
 have hB:Below w.heap.size w w:=Below.refl _ _
 have HP:=Lib.hid hp
 clear hp
 have MC:=fun W (H:Env W)=>hc.valid W H
 rw [h1] at MC
 have MR:=fun W (H:Env W)=>qvalid q hq W H
 have MG:=fun W (H:Env W)=>nsign hq W H
 have h3d:decide (0≤cmpQ q 0)=true:=decide_eq_true (cmpQ_ge.2 h3)
 unfold CmpOk at MG
 generalize cmpQ q 0=g at *
 have h4d:¬ (n:Int)≤64:=by omega
 unfold BoolOk at *
 unfold Q at *
 clear hc h1 hq h3
 clear h4
 go_enter Tryz.func34, Tryz.ntmps34
 go_wp2_with fail
 have sB:=hB.size
 refine world_cut (fun X=>Below w.heap.size w X∧Row X w.heap.size (.cells #[.string c1,.string c2,.slice p n c,.string (S q.num),.string (S (q.den:Int))] 58)) ⟨BW,RWh⟩ ?_
 clear hB sB
 rintro V1 ⟨hB,rf⟩
 have sf:=RF5 rf
 refine (MC _ (he.below hB)).mono ?_
 rintro e W2 ⟨rfl,h1⟩
 have stp:=St1 hB h1 rf;clear hB h1 rf sf
 obtain ⟨hB,rf⟩:=stp
 have sf:=RF5 rf
 go_wp2_with fail
 refine (MR _ (he.below hB)).mono ?_
 rintro e W3 ⟨rfl,h1⟩
 have stp:=St1 hB h1 rf;clear hB h1 rf sf
 obtain ⟨hB,rf⟩:=stp
 have sf:=RF5 rf
 go_wp2_with fail
 refine (MG _ (he.below hB)).mono ?_
 rintro e W4 ⟨rfl,h1⟩
 have stp:=St1 hB h1 rf;clear hB h1 rf sf
 obtain ⟨hB,rf⟩:=stp
 have sf:=RF5 rf
 go_wp2
 go_ret
 exact ⟨rfl,hB⟩
theorem avalid_4 {c1 c2:ByteArray} {l:List RT} {oc:Option Rat} (hc:RK c1 c2 oc) {q:Rat} (hq:QDig 200 q) (p:Option Addr) (n c:Nat) (hn:l.length=n) (h1:oc.isSome=true) (h3:0≤q) (h4:n≤64) (h5:¬ SrcU l)  (w:World) (hp:UAt 62 w p l) (he:Env w):Calls Tryz.prog 34 #[.agg #[.string c1,.string c2,.slice p n c,.string (S q.num),.string (S (q.den:Int))]] w (BoolOk false w):=by
 have hB:Below w.heap.size w w:=Below.refl _ _
 have HP:=Lib.hid hp
 clear hp
 have MC:=fun W (H:Env W)=>hc.valid W H
 rw [h1] at MC
 have MR:=fun W (H:Env W)=>qvalid q hq W H
 have MG:=fun W (H:Env W)=>nsign hq W H
 have h3d:decide (0≤cmpQ q 0)=true:=decide_eq_true (cmpQ_ge.2 h3)
 unfold CmpOk at MG
 generalize cmpQ q 0=g at *
 have h4d:(n:Int)≤64:=by omega
 have MA:=fun W (hp:UAt 62 W p l)=>aare p n c hn (by omega) W hp
 rw [decide_eq_false h5] at MA
 unfold BoolOk at MA
 unfold BoolOk at *
 unfold Q at *
 clear hc h1 hq h3 h5
 clear h4
 go_enter Tryz.func34, Tryz.ntmps34
 go_wp2_with fail
 have sB:=hB.size
 refine world_cut (fun X=>Below w.heap.size w X∧Row X w.heap.size (.cells #[.string c1,.string c2,.slice p n c,.string (S q.num),.string (S (q.den:Int))] 58)) ⟨BW,RWh⟩ ?_
 clear hB sB
 rintro V1 ⟨hB,rf⟩
 have sf:=RF5 rf
 refine (MC _ (he.below hB)).mono ?_
 rintro e W2 ⟨rfl,h1⟩
 have stp:=St1 hB h1 rf;clear hB h1 rf sf
 obtain ⟨hB,rf⟩:=stp
 have sf:=RF5 rf
 go_wp2_with fail
 refine (MR _ (he.below hB)).mono ?_
 rintro e W3 ⟨rfl,h1⟩
 have stp:=St1 hB h1 rf;clear hB h1 rf sf
 obtain ⟨hB,rf⟩:=stp
 have sf:=RF5 rf
 go_wp2_with fail
 refine (MG _ (he.below hB)).mono ?_
 rintro e W4 ⟨rfl,h1⟩
 have stp:=St1 hB h1 rf;clear hB h1 rf sf
 obtain ⟨hB,rf⟩:=stp
 have sf:=RF5 rf
 go_wp2_with fail
 refine (MA _ (UAt.below HP.out hB)).mono ?_
 rintro e W5 ⟨rfl,h1⟩
 have stp:=St1 hB h1 rf;clear hB h1 rf sf
 obtain ⟨hB,rf⟩:=stp
 have sf:=RF5 rf
 go_wp2
 go_ret
 exact ⟨rfl,hB⟩
theorem avalid_5 {c1 c2:ByteArray} {l:List RT} {oc:Option Rat} (hc:RK c1 c2 oc) {q:Rat} (hq:QDig 200 q) {ot:Nat→Option Rat} (p:Option Addr) (n c:Nat) (hn:l.length=n) (ht:∀ i,i<n→RK (uD l i).a (uD l i).b (ot i)) (h1:oc.isSome=true) (h3:0≤q) (h4:n≤64) (h5:SrcU l)  (w:World) (hp:UAt 62 w p l) (he:Env w):Calls Tryz.prog 34 #[.agg #[.string c1,.string c2,.slice p n c,.string (S q.num),.string (S (q.den:Int))]] w (BoolOk (!decide (∃ i,i<n∧wrongO (ot i)=true)) w):=by
 have hB:Below w.heap.size w w:=Below.refl _ _
 have HP:=Lib.hid hp
 clear hp
 have MC:=fun W (H:Env W)=>hc.valid W H
 rw [h1] at MC
 have MR:=fun W (H:Env W)=>qvalid q hq W H
 have MG:=fun W (H:Env W)=>nsign hq W H
 have h3d:decide (0≤cmpQ q 0)=true:=decide_eq_true (cmpQ_ge.2 h3)
 unfold CmpOk at MG
 generalize cmpQ q 0=g at *
 have h4d:(n:Int)≤64:=by omega
 have MA:=fun W (hp:UAt 62 W p l)=>aare p n c hn (by omega) W hp
 rw [decide_eq_true h5] at MA
 unfold BoolOk at MA
 have MW:=fun W (hp:UAt 62 W p l) (H:Env W)=>tcontains (l:=l) (fun i=>wrongO (ot i)) 105 (enters_of Tryz.func105 (by kernel_rfl) rfl) p n c hn (by omega) W hp (fun i hi X hX=>awrong (uD l i) (ht i hi) X (H.below hX))
 generalize decide (∃ i,i<n∧wrongO (ot i)=true)=v at *
 unfold BoolOk at MW
 unfold BoolOk at *
 unfold Q at *
 clear hc h1 hq h3 h5 ht
 clear h4
 go_enter Tryz.func34, Tryz.ntmps34
 go_wp2_with fail
 have sB:=hB.size
 refine world_cut (fun X=>Below w.heap.size w X∧Row X w.heap.size (.cells #[.string c1,.string c2,.slice p n c,.string (S q.num),.string (S (q.den:Int))] 58)) ⟨BW,RWh⟩ ?_
 clear hB sB
 rintro V1 ⟨hB,rf⟩
 have sf:=RF5 rf
 refine (MC _ (he.below hB)).mono ?_
 rintro e W2 ⟨rfl,h1⟩
 have stp:=St1 hB h1 rf;clear hB h1 rf sf
 obtain ⟨hB,rf⟩:=stp
 have sf:=RF5 rf
 go_wp2_with fail
 refine (MR _ (he.below hB)).mono ?_
 rintro e W3 ⟨rfl,h1⟩
 have stp:=St1 hB h1 rf;clear hB h1 rf sf
 obtain ⟨hB,rf⟩:=stp
 have sf:=RF5 rf
 go_wp2_with fail
 refine (MG _ (he.below hB)).mono ?_
 rintro e W4 ⟨rfl,h1⟩
 have stp:=St1 hB h1 rf;clear hB h1 rf sf
 obtain ⟨hB,rf⟩:=stp
 have sf:=RF5 rf
 go_wp2_with fail
 refine (MA _ (UAt.below HP.out hB)).mono ?_
 rintro e W5 ⟨rfl,h1⟩
 have stp:=St1 hB h1 rf;clear hB h1 rf sf
 obtain ⟨hB,rf⟩:=stp
 have sf:=RF5 rf
 go_wp2_with fail
 clear rf
 clear sf
 refine (MW _ (UAt.below HP.out hB) (he.below hB)).mono ?_
 rintro e W6 ⟨rfl,h1⟩
 have stp:=St0 hB h1;clear hB h1
 have hB:=stp;clear stp
 go_wp2
 go_ret
 exact ⟨rfl,hB⟩
theorem avalid {c1 c2 r1 r2:ByteArray} {l:List RT} {oc orr:Option Rat} {ot:Nat→Option Rat} (hc:RK c1 c2 oc) (hr:RK r1 r2 orr) {n:Nat} (ht:∀ i,i<n→RK (uD l i).a (uD l i).b (ot i)) (p:Option Addr) (c:Nat) (hn:l.length=n) (w:World) (hp:UAt 62 w p l) (he:Env w) :
  Calls Tryz.prog 34 #[.agg #[.string c1,.string c2,.slice p n c,.string r1,.string r2]] w (BoolOk (vfB oc orr ot l n) w):=by
 unfold vfB
 cases h1:oc.isSome with
 | false=>exact avalid_0 hc p n c hn h1 w hp he
 | true =>
  cases orr with
  | none=>exact avalid_1 hc hr p n c hn h1 rfl w hp he
  | some q =>
   obtain ⟨rfl,rfl,hq⟩:=hr
   by_cases h3:0≤q
   ·by_cases h4:n≤64
    ·by_cases h5:SrcU l
     ·simp only [Option.isSome_some,Bool.true_and,decide_eq_true h3,decide_eq_true h4,decide_eq_true h5]
      exact avalid_5 hc hq p n c hn ht h1 h3 h4 h5 w hp he
     ·simp only [decide_eq_false h5,Bool.false_and,Bool.and_false]
      exact avalid_4 hc hq p n c hn h1 h3 h4 h5 w hp he
    ·simp only [decide_eq_false h4,Bool.false_and,Bool.and_false]
     exact avalid_3 hc hq p n c hn h1 h3 h4 w hp he
   ·simp only [decide_eq_false h3,Bool.false_and,Bool.and_false]
    exact avalid_2 hc hq p n c hn h1 h3 w hp he
theorem vf_ok {f:Frm} (h:f.Ok):vfB (some f.c) (some f.r) (fun i=>some (trD f.t i).c) (raws f.t) f.t.length=true:=by
 unfold vfB
 simp only [Option.isSome_some,Bool.true_and,decide_eq_true h.rest,decide_eq_true h.few,decide_eq_true (srcU_of h.src)]
 rw [decide_eq_false]
 ·rfl
 ·rintro ⟨i,hi,hw⟩
  exact h.nz _ (trD_mem hi) (of_decide_eq_true hw)
/-- Valid at valid forms. -/
theorem avalid_ok {f:Frm} (ho:f.Ok) (hd:FDig 200 f) (p:Option Addr) (c:Nat) (w:World) (hp:TAt 62 w p f.t) (he:Env w):Calls Tryz.prog 34 #[FV f p c] w (BoolOk true w):=by
 have h:=avalid (l:=raws f.t) (n:=f.t.length) (RK.of hd.c) (RK.of hd.r) (ot:=fun i=>some (trD f.t i).c) (fun i hi=>by rw [raws_at hi];exact RK.of (hd.t _ (trD_mem hi))) p c (raws_length f.t) w hp he
 rw [vf_ok ho] at h
 exact h
end Go.Proofs.YtnokpldomlmamaaGreatDoor
namespace Go.Proofs.YtnokpldomlmamaaGreatDoor
open Go Go.RowKit Go.Lib Go.Shelf
def isNew (o:Oper):Bool:=(match o.op with | .alloc _=>true | _=>false) && o.guard.isNone
theorem new_run {P:Program} {ρ:Operand→Value} {o:Oper} {W W':World} {n:Next} (h:isNew o=true) (hr:(execOp ρ o).run P W = .ok n W'):n = .value (.pointer (some ⟨W.heap.size,0,none⟩))∧W.heap.size<W'.heap.size:=by
 unfold isNew at h
 rw [Bool.and_eq_true] at h
 have h1:=h.1
 cases ho:o.op with
 | alloc e =>
  simp [execOp,ho,go_sem] at hr
  cases hz:Sem.run P (zeroValue e) W with
  | halt x W1=>rw [hz] at hr;cases hr
  | ok v W1 =>
   rw [hz] at hr
   simp only [Result.andThen,Result.ok.injEq] at hr
   have hw:W1=W:=by
    unfold zeroValue typeInfo at hz
    cases hi:P.info? e with
    | none=>simp [go_sem,hi] at hz
    | some i =>
     cases hzz:i.zero with
     | none=>simp [go_sem,hi,hzz] at hz
     | some z=>simp [go_sem,hi,hzz] at hz;exact hz.2.symm
   obtain ⟨rfl,rfl⟩:=hr
   subst hw
   exact ⟨rfl,by simp⟩
 | _=>simp [ho] at h1
/-- New blocks lie apart. -/
structure ApartAt (ops:Array Oper) (listed:Array Bool) (a:Act) (W:World):Prop where
 old:∀ i (o:Oper) t,ops[i]? = some o→isNew o=true→o.dst=some t→listed.getD i false=true→∃ b,a.eval (.tmp t) = .pointer (some ⟨b,0,none⟩)∧b<W.heap.size
 apart:∀ i j (o p:Oper) t s,ops[i]? = some o→ops[j]? = some p→isNew o=true→isNew p=true→o.dst=some t→p.dst=some s→i≠j→listed.getD i false=true→listed.getD j false=true→a.eval (.tmp t)≠a.eval (.tmp s)
theorem quietAt_step2 {P:Program} {ops:Array Oper} {Q:Exit→Act→World→Prop} {Sp:Nat→QSay} {tmps:Array Value} {ds:List Deferred} {w:World} {fl:List Oper}
  (hmono:∀ i v W W',Sp i v W→Below W.heap.size W W'→Sp i v W') (hfit:quietFit ops tmps.size=true)
  {i:Nat} {o:Oper} {listed:Array Bool} {a:Act} {W:World} (hob0:quietOb P ops fl Sp tmps w i o) (hfl:∀ j (p:Oper),ops[j]? = some p→listed.getD j false=true→p ∈ fl) (ho:ops[i]? = some o) (hJ:QuietAt ops Sp tmps ds w listed a W) (hA:ApartAt ops listed a W)
  (hni:listed.getD i false=false) (hdep:∀ e ∈ o.after,Region.binds .any e=true→listed.getD e.on false=true) :
  wpOp P ops Q i (fun a' W'=>QuietAt ops Sp tmps ds w (listed.setIfInBounds i true) a' W'∧ApartAt ops (listed.setIfInBounds i true) a' W') a W:=by
 have hob:=hob0 a.eval W hJ.below (fun _=>rfl) (fun _=>rfl) (fun _=>rfl)
  (fun t ht=>by rw [eval_tmp,Array.getD_eq_getD_getElem?,Array.getD_eq_getD_getElem?,hJ.same t (fun j p hp hl=>foreign_mem ht (hfl j p hp hl))])
  (depsSay_of _ fun e he hb p t hp ht=>hJ.done e.on p t hp ht (hdep e (by simpa using he) hb))
 have other:∀ v j (p:Oper) t,ops[j]? = some p→p.dst=some t→j≠i→(a.put o.dst v).eval (.tmp t)=a.eval (.tmp t):=by
  intro v j p t hp ht hji
  have h2:=quietFit.own hfit hp ho ht (Ne.symm hji)
  rw [eval_tmp,eval_tmp]
  unfold Act.put
  cases hd:o.dst with
  | none=>rfl
  | some d =>
   have:d≠t:=fun e=>h2 (by rw [hd,e])
   simp only
   rw [Array.getD_eq_getD_getElem?,Array.getElem?_setIfInBounds_ne this,← Array.getD_eq_getD_getElem?]
 have own:∀ v t,o.dst=some t→(a.put o.dst v).eval (.tmp t)=v:=by
  intro v t ht
  rw [eval_tmp]
  unfold Act.put
  rw [ht]
  simp only
  rw [Array.getD_eq_getD_getElem?,Array.getElem?_setIfInBounds_self,if_pos (by rw [hJ.size];exact quietFit.lt hfit ho ht)]
  rfl
 have fin:∀ v W',Sp i v W'→Below W.heap.size W W'→(isNew o=true→v = .pointer (some ⟨W.heap.size,0,none⟩)∧W.heap.size<W'.heap.size)→QuietAt ops Sp tmps ds w (listed.setIfInBounds i true) (a.put o.dst v) W'∧ApartAt ops (listed.setIfInBounds i true) (a.put o.dst v) W':=by
  intro v W' hs hB hnew
  refine ⟨⟨hJ.below.trans (hB.mono hJ.below.size),?_,?_,by rw [Array.size_setIfInBounds];exact hJ.lsize,?_,?_⟩,⟨?_,?_⟩⟩
  ·rw [← hJ.defers];unfold Act.put;split <;> rfl
  ·rw [← hJ.size];unfold Act.put;split <;> simp
  ·intro j p t hp ht hj
   by_cases hji:j=i
   ·subst hji
    rw [ho] at hp;cases hp
    rw [own v t ht]
    exact hs
   ·rw [other v j p t hp ht hji]
    exact hmono _ _ _ _ (hJ.done j p t hp ht ((listed_set hj).resolve_left hji)) hB
  ·intro t ht
   have hself:o.dst≠some t:=ht i o ho (listed_self (by rw [hJ.lsize];exact (Array.getElem?_eq_some_iff.1 ho).1))
   rw [← hJ.same t (fun j p hp hl=>ht j p hp (listed_keep hl))]
   unfold Act.put
   cases hd:o.dst with
   | none=>rfl
   | some d =>
    have:d≠t:=fun e=>hself (by rw [hd,e])
    simp only
    rw [Array.getElem?_setIfInBounds_ne this]
  ·intro j p t hp hn ht hj
   by_cases hji:j=i
   ·subst hji
    rw [ho] at hp;cases hp
    rw [own v t ht]
    exact ⟨_,(hnew hn).1,(hnew hn).2⟩
   ·rw [other v j p t hp ht hji]
    obtain ⟨b,e,hb⟩:=hA.old j p t hp hn ht ((listed_set hj).resolve_left hji)
    exact ⟨b,e,Nat.lt_of_lt_of_le hb hB.size⟩
  ·intro j k p q t s hp hq hnp hnq ht hs' hne hj hk
   by_cases hji:j=i
   ·subst hji
    rw [ho] at hp;cases hp
    rw [own v t ht,other v k q s hq hs' (Ne.symm hne),(hnew hnp).1]
    obtain ⟨b,e,hb⟩:=hA.old k q s hq hnq hs' ((listed_set hk).resolve_left (Ne.symm hne))
    rw [e]
    intro h
    simp at h
    try omega
   ·rw [other v j p t hp ht hji]
    by_cases hki:k=i
    ·subst hki
     rw [ho] at hq;cases hq
     rw [own v s hs',(hnew hnq).1]
     obtain ⟨b,e,hb⟩:=hA.old j p t hp hnp ht ((listed_set hj).resolve_left hji)
     rw [e]
     intro h
     simp at h
     try omega
    ·rw [other v k q s hq hs' hki]
     exact hA.apart j k p q t s hp hq hnp hnq ht hs' hne ((listed_set hj).resolve_left hji) ((listed_set hk).resolve_left hki)
 unfold wpOp
 simp only [ho]
 rw [yielded_by]
 split at hob
 ·rename_i hw
  rw [if_pos hw]
  left
  unfold Oper.wp Oper.upon
  cases hr:(execOp a.eval o).run P W with
  | ok n W' =>
   rw [hr] at hob
   cases n with
   | value v=>exact fin v W' hob.1 hob.2 (fun hn=>by have:=new_run hn hr;simpa using this)
   | skip=>exact fin _ W' hob.1 hob.2 (fun hn=>by have:=new_run hn hr;cases this.1)
   | enter f args =>
    refine Calls.mono hob.2 fun e W'' he => ?_
    obtain ⟨v,rfl,hs,hB⟩:=he
    exact fin v W'' hs (hob.1.trans (hB.mono hob.1.size)) (fun hn=>by have:=new_run hn hr;cases this.1)
   | _=>exact hob.elim
  | halt x W'=>rw [hr] at hob;exact hob.elim
 ·rename_i hw
  rw [if_neg hw]
  refine fin _ W hob (Below.refl _ _) (fun hn => ?_)
  exfalso
  apply hw
  unfold isNew at hn
  rw [Bool.and_eq_true] at hn
  have hg:o.guard=none:=by simpa using hn.2
  simp [Region.wanted,hg]
def newDsts:List Oper→List Nat
 | []=>[]
 | o :: l=>match o.dst with | some t=>if isNew o then t :: newDsts l else newDsts l | none=>newDsts l
def Apart (L:List Nat) (T:Array Value):Prop:=L.Pairwise fun t s=>T.getD t undef≠T.getD s undef
theorem mem_newDsts {t:Nat}:∀ {l:List Oper},t ∈ newDsts l→∃ (i:Nat) (o:Oper),l[i]? = some o∧isNew o=true∧o.dst=some t
 | [],h=>by cases h
 | o :: l,h=>by
  have back:t ∈ newDsts l→∃ (i:Nat) (p:Oper),(o :: l)[i]? = some p∧isNew p=true∧p.dst=some t:=fun h=>by
   obtain ⟨i,p,h1,h2⟩:=mem_newDsts h
   exact ⟨i+1,p,by simpa using h1,h2⟩
  unfold newDsts at h
  cases hd:o.dst with
  | none=>rw [hd] at h;exact back h
  | some d =>
   rw [hd] at h
   simp only at h
   split at h
   ·rename_i hn
    rcases List.mem_cons.1 h with rfl | h
    ·exact ⟨0,o,rfl,hn,hd⟩
    ·exact back h
   ·exact back h
theorem apart_of {T:Array Value}:∀ {l:List Oper},(∀ (i j:Nat) (o p:Oper) (t s:Nat),l[i]? = some o→l[j]? = some p→isNew o=true→isNew p=true→o.dst=some t→p.dst=some s→i≠j→T.getD t undef≠T.getD s undef)→Apart (newDsts l) T
 | [],_=>List.Pairwise.nil
 | o :: l,h=>by
  have ih:Apart (newDsts l) T:=apart_of fun i j p q t s hp hq h1 h2 h3 h4 hne=>h (i+1) (j+1) p q t s (by simpa using hp) (by simpa using hq) h1 h2 h3 h4 (by omega)
  unfold newDsts
  cases hd:o.dst with
  | none=>exact ih
  | some d =>
   simp only
   split
   ·rename_i hn
    refine List.Pairwise.cons (fun s hs => ?_) ih
    obtain ⟨j,p,hp,hnp,hps⟩:=mem_newDsts hs
    exact h 0 (j+1) o p d s rfl (by simpa using hp) hn hnp hd hps (by omega)
   ·exact ih
end Go.Proofs.YtnokpldomlmamaaGreatDoor
