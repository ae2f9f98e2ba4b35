/-
 Package affine: isBetween, what is wrong with a term, Valid, whatever the strings and the numbers of sources. Regions that draw their order, make several new blocks, and end in stores: the new blocks lie apart, whatever the order. Regions that draw their order and end in stores, some of whose values may come up late, among the stores (the parts of a tuple).
-/
import Derived.ControlIn
import Derived.Test.YtdikaoahgleffaaGreatDoorWAValid
import Derived.Test.YtdikaoahgleffaaGreatDoorWEValid
set_option linter.unusedSimpArgs false
set_option linter.unusedVariables false
set_option maxRecDepth 100000
set_option maxHeartbeats 16000000
namespace Go.Proofs.YtdikaoahgleffaaGreatDoor
open Go Go.RowKit Go.Lib Go.Shelf
def RK (a b:ByteArray) (o:Option Rat):Prop:=match o with
 | some q=>a=S q.num∧b=S (q.den:Int)∧QDig 200 q
 | none=>∀ W,Env W→Calls Tryz.prog 39 #[.agg #[.string a,.string b]] W (BoolOk false W)
theorem RK.of {q:Rat} (h:QDig 200 q):RK (S q.num) (S (q.den:Int)) (some q):=⟨rfl,rfl,h⟩
theorem RK.zero:RK ⟨#[]⟩ ⟨#[]⟩ none:=fun W _=>qvalid_zero W
theorem RK.valid {a b:ByteArray} {o:Option Rat} (h:RK a b o) (w:World) (he:Env w):Calls Tryz.prog 39 #[.agg #[.string a,.string b]] w (BoolOk o.isSome w):=by
 cases o with
 | none=>exact h w he
 | some q =>
  obtain ⟨rfl,rfl,hq⟩:=h;exact qvalid q hq w he
def betB (lo hi:Rat):Option Rat→Bool
 | none=>false
 | some q=>decide (lo≤q) && decide (q≤hi)
theorem whole1:Rat.divInt 1 1=1:=by decide +kernel
theorem wholeM:Rat.divInt (-1) 1 = -1:=by decide +kernel
theorem dig1:QDig 200 1:=⟨by unfold Dig;decide,by unfold Dig;decide⟩
theorem digM:QDig 200 (-1):=⟨by unfold Dig;decide,by unfold Dig;decide⟩
theorem abet_none {a b:ByteArray} {lo hi:Int} (h:RK a b none) (w:World) (he:Env w):Calls Tryz.prog 69 #[.agg #[.string a,.string b],.int .i64 lo,.int .i64 hi] w (BoolOk false w):=by
 have hB:Below w.heap.size w w:=Below.refl _ _;have FN:=fnum;have MV:=fun W (H:Env W)=>(h:∀ W,Env W→_) W H
 unfold BoolOk at MV;clear h;unfold BoolOk;go_enter Tryz.func69, Tryz.ntmps69;go_wp2_with fail;have sB:=hB.size;refine wp_cut (fun X=>Below w.heap.size w X∧Row X w.heap.size (.cells #[.string a,.string b] 27)) ⟨BW,RWh⟩ ?_;clear hB sB;rintro V1 ⟨hB,rr⟩;have sr:=RF2 rr;refine wp_region_vals [.agg #[.string a,.string b],.bool false,.bool false,undef,undef,undef,undef,undef,undef,.bool false,.bool false,undef,undef,undef,undef,undef,undef,.bool false,.bool false] (by kernel_rfl) (by kernel_rfl) rfl (allVals.cons (qv1 fun X h=>RF2 (Row.below rr h)) (allVals.cons (qv2 fun X h=>MV X (he.below (hB.trans (h.mono hB.size)))) (allVals.cons qv0 (allVals.cons qv0 (allVals.cons qv0 (allVals.cons qv0 (allVals.cons qv0 (allVals.cons qv0 (allVals.cons qv0 (allVals.cons qv0 (allVals.cons qv0 (allVals.cons qv0 (allVals.cons qv0 (allVals.cons qv0 (allVals.cons qv0 (allVals.cons qv0 (allVals.cons qv0 (allVals.cons qv0 (allVals.cons qv0 trivial))))))))))))))))))) ?_;rintro W h1;have stp:=St1 hB h1 rr;clear hB h1 rr sr;obtain ⟨hB,rr⟩:=stp;have sr:=RF2 rr;simp only [setVals,List.setIfInBounds_toArray,List.set_cons_succ,List.set_cons_zero];go_wp2;go_ret;exact ⟨rfl,hB⟩
theorem abet_low {lo hi:Int} {ql qh:Rat} (hlo:IsInt lo) (hhi:IsInt hi) (eql:Rat.divInt lo 1=ql) (eqh:Rat.divInt hi 1=qh) (dl:QDig 200 ql) (dh:QDig 200 qh) {q:Rat} (hq:QDig 200 q) (h:¬ ql≤q) (w:World) (he:Env w):Calls Tryz.prog 69 #[Q q,.int .i64 lo,.int .i64 hi] w (BoolOk false w):=by
 have hB:Below w.heap.size w w:=Below.refl _ _;have FN:=fnum;have ML:=fun W (H:Env W)=>awhole hlo eql W H
 have MH:=fun W (H:Env W)=>awhole hhi eqh W H
 have M1:=fun W (H:Env W)=>qcompare q ql hq dl W H
 have M2:=fun W (H:Env W)=>qcompare q qh hq dh W H
 have MV:=fun W (H:Env W)=>qvalid q hq W H
 unfold QIs at ML MH;unfold CmpOk at M1 M2;unfold BoolOk at MV;unfold Q at *;generalize hc1:cmpQ q ql=c1 at *;generalize hc2:cmpQ q qh=c2 at *;have c1d:decide (0≤c1)=false:=decide_eq_false (fun e=>h (cmpQ_ge.1 (hc1 ▸ e)));clear hc1 hc2 h eql eqh dl dh hq M2 MH;unfold BoolOk;go_enter Tryz.func69, Tryz.ntmps69;go_wp2_with fail;have sB:=hB.size;refine wp_cut (fun X=>Below w.heap.size w X∧Row X w.heap.size (oR q)) ⟨BW,RWh⟩ ?_;clear hB sB;rintro V1 ⟨hB,rr⟩;have sr:=RF2 rr;refine wp_region_vals [.agg #[.string (S q.num),.string (S (q.den:Int))],.bool true,.bool true,.agg #[.string (S q.num),.string (S (q.den:Int))],.int .i64 lo,.agg #[.string (S ql.num),.string (S (ql.den:Int))],.agg #[.string (S ql.num),.string (S (ql.den:Int))],.int .i64 c1,.bool false,.bool false,.bool false,undef,undef,undef,undef,undef,undef,.bool false,.bool false] (by kernel_rfl) (by kernel_rfl) rfl (allVals.cons (qv1 fun X h=>RF2 (Row.below rr h)) (allVals.cons (qv2 fun X h=>MV X (he.below (hB.trans (h.mono hB.size)))) (allVals.cons qv0 (allVals.cons (qv1 fun X h=>RF2 (Row.below rr h)) (allVals.cons qv0 (allVals.cons (qv2 fun X h=>ML X (he.below (hB.trans (h.mono hB.size)))) (allVals.cons (qvf FN) (allVals.cons (qv2 fun X h=>M1 X (he.below (hB.trans (h.mono hB.size)))) (allVals.cons (qvf c1d) (allVals.cons qv0 (allVals.cons qv0 (allVals.cons qv0 (allVals.cons qv0 (allVals.cons qv0 (allVals.cons qv0 (allVals.cons qv0 (allVals.cons qv0 (allVals.cons qv0 (allVals.cons qv0 trivial))))))))))))))))))) ?_
 rintro W h1;have stp:=St1 hB h1 rr;clear hB h1 rr sr;obtain ⟨hB,rr⟩:=stp;have sr:=RF2 rr;simp only [setVals,List.setIfInBounds_toArray,List.set_cons_succ,List.set_cons_zero];go_wp2;go_ret;exact ⟨rfl,hB⟩
theorem abet_in {lo hi:Int} {ql qh:Rat} (hlo:IsInt lo) (hhi:IsInt hi) (eql:Rat.divInt lo 1=ql) (eqh:Rat.divInt hi 1=qh) (dl:QDig 200 ql) (dh:QDig 200 qh) {q:Rat} (hq:QDig 200 q) (h:ql≤q) (w:World) (he:Env w):Calls Tryz.prog 69 #[Q q,.int .i64 lo,.int .i64 hi] w (BoolOk (decide (q≤qh)) w):=by
 have hB:Below w.heap.size w w:=Below.refl _ _;have FN:=fnum;have ML:=fun W (H:Env W)=>awhole hlo eql W H
 have MH:=fun W (H:Env W)=>awhole hhi eqh W H
 have M1:=fun W (H:Env W)=>qcompare q ql hq dl W H
 have M2:=fun W (H:Env W)=>qcompare q qh hq dh W H
 have MV:=fun W (H:Env W)=>qvalid q hq W H
 unfold QIs at ML MH;unfold CmpOk at M1 M2;unfold BoolOk at MV;unfold Q at *;generalize hc1:cmpQ q ql=c1 at *;generalize hc2:cmpQ q qh=c2 at *;have c1d:decide (0≤c1)=true:=decide_eq_true (hc1 ▸ cmpQ_ge.2 h);have c2e:decide (q≤qh)=decide (c2≤0):=by rw [← hc2];exact decide_eq_decide.2 cmpQ_le.symm
 rw [c2e];generalize hbb:decide (c2≤0)=bb;have c2d:=hbb;clear hc1 hc2 h eql eqh dl dh hq c2e hbb;unfold BoolOk;go_enter Tryz.func69, Tryz.ntmps69;go_wp2_with fail;have sB:=hB.size;refine wp_cut (fun X=>Below w.heap.size w X∧Row X w.heap.size (oR q)) ⟨BW,RWh⟩ ?_;clear hB sB;rintro V1 ⟨hB,rr⟩;have sr:=RF2 rr;refine wp_region_vals [.agg #[.string (S q.num),.string (S (q.den:Int))],.bool true,.bool true,.agg #[.string (S q.num),.string (S (q.den:Int))],.int .i64 lo,.agg #[.string (S ql.num),.string (S (ql.den:Int))],.agg #[.string (S ql.num),.string (S (ql.den:Int))],.int .i64 c1,.bool true,.bool true,.bool true,.agg #[.string (S q.num),.string (S (q.den:Int))],.int .i64 hi,.agg #[.string (S qh.num),.string (S (qh.den:Int))],.agg #[.string (S qh.num),.string (S (qh.den:Int))],.int .i64 c2,.bool bb,.bool bb,.bool bb] (by kernel_rfl) (by kernel_rfl) rfl (allVals.cons (qv1 fun X h=>RF2 (Row.below rr h)) (allVals.cons (qv2 fun X h=>MV X (he.below (hB.trans (h.mono hB.size)))) (allVals.cons qv0 (allVals.cons (qv1 fun X h=>RF2 (Row.below rr h)) (allVals.cons qv0 (allVals.cons (qv2 fun X h=>ML X (he.below (hB.trans (h.mono hB.size)))) (allVals.cons (qvf FN) (allVals.cons (qv2 fun X h=>M1 X (he.below (hB.trans (h.mono hB.size)))) (allVals.cons (qvf c1d) (allVals.cons qv0 (allVals.cons qv0 (allVals.cons (qv1 fun X h=>RF2 (Row.below rr h)) (allVals.cons qv0 (allVals.cons (qv2 fun X h=>MH X (he.below (hB.trans (h.mono hB.size)))) (allVals.cons (qvf FN) (allVals.cons (qv2 fun X h=>M2 X (he.below (hB.trans (h.mono hB.size)))) (allVals.cons (qvf c2d) (allVals.cons qv0 (allVals.cons qv0 trivial))))))))))))))))))) ?_
 rintro W h1;have stp:=St1 hB h1 rr;clear hB h1 rr sr;obtain ⟨hB,rr⟩:=stp;have sr:=RF2 rr;simp only [setVals,List.setIfInBounds_toArray,List.set_cons_succ,List.set_cons_zero];go_wp2;go_ret;exact ⟨rfl,hB⟩
theorem abet {lo hi:Int} {ql qh:Rat} (hlo:IsInt lo) (hhi:IsInt hi) (eql:Rat.divInt lo 1=ql) (eqh:Rat.divInt hi 1=qh) (dl:QDig 200 ql) (dh:QDig 200 qh) {a b:ByteArray} {o:Option Rat} (h:RK a b o) (w:World) (he:Env w) :
  Calls Tryz.prog 69 #[.agg #[.string a,.string b],.int .i64 lo,.int .i64 hi] w (BoolOk (betB ql qh o) w):=by
 cases o with
 | none=>exact abet_none h w he
 | some q =>
  obtain ⟨rfl,rfl,hq⟩:=h;show Calls Tryz.prog 69 _ w (BoolOk (decide (ql≤q) && decide (q≤qh)) w);by_cases hl:ql≤q
  ·rw [decide_eq_true hl,Bool.true_and];exact abet_in hlo hhi eql eqh dl dh hq hl w he
  ·rw [decide_eq_false hl,Bool.false_and];exact abet_low hlo hhi eql eqh dl dh hq hl w he
theorem avalue (x:RT) {o:Option Rat} (h:RK x.a x.b o) (w:World) (he:Env w):Calls Tryz.prog 68 #[uV x] w (BoolOk (!betB (-1) 1 o) w):=by
 have hB:Below w.heap.size w w:=Below.refl _ _;have MB:=fun W (H:Env W)=>abet (lo:=(-1)) (hi:=1) (by decide) (by decide) wholeM whole1 digM dig1 h W H
 generalize betB (-1) 1 o=v at *;unfold BoolOk uV at *;clear h;go_enter Tryz.func68, Tryz.ntmps68;go_wp2_with fail;have sB:=hB.size;refine world_cut (fun X=>Below w.heap.size w X) BW ?_;clear hB sB;rintro V1 hB;refine (MB _ (he.below hB)).mono ?_;rintro e W2 ⟨rfl,h1⟩;have stp:=St0 hB h1;clear hB h1;have hB:=stp;clear stp;go_wp2;go_ret;exact ⟨rfl,hB⟩
theorem avar (x:RT) {o:Option Rat} (h:RK x.a x.b o) (w:World) (he:Env w):Calls Tryz.prog 78 #[uV x] w (BoolOk (!betB (0) 1 o) w):=by
 have hB:Below w.heap.size w w:=Below.refl _ _;have MB:=fun W (H:Env W)=>abet (lo:=0) (hi:=1) (by decide) (by decide) whole0 whole1 dig0 dig1 h W H
 generalize betB (0) 1 o=v at *;unfold BoolOk uV at *;clear h;go_enter Tryz.func78, Tryz.ntmps78;go_wp2_with fail;have sB:=hB.size;refine world_cut (fun X=>Below w.heap.size w X) BW ?_;clear hB sB;rintro V1 hB;refine (MB _ (he.below hB)).mono ?_;rintro e W2 ⟨rfl,h1⟩;have stp:=St0 hB h1;clear hB h1;have hB:=stp;clear stp;go_wp2;go_ret;exact ⟨rfl,hB⟩
def wrongO:Option Rat→Bool
 | none=>true
 | some q=>decide (q=0)
theorem awrong_none (x:RT) (h:RK x.a x.b none) (w:World) (he:Env w):Calls Tryz.prog 74 #[uV x] w (BoolOk true w):=by
 have hB:Below w.heap.size w w:=Below.refl _ _;have MB:=fun W (H:Env W)=>(h:∀ W,Env W→_) W H
 unfold BoolOk uV at *;clear h;go_enter Tryz.func74, Tryz.ntmps74;go_wp2_with fail;have sB:=hB.size;refine world_cut (fun X=>Below w.heap.size w X∧Row X w.heap.size (.cells #[.int .i64 x.s,.string x.a,.string x.b] 55)) ⟨BW,RWh⟩ ?_;clear hB sB;rintro V1 ⟨hB,rx⟩;have sx:=RF3 rx;refine (MB _ (he.below hB)).mono ?_;rintro e W2 ⟨rfl,h1⟩;have stp:=St1 hB h1 rx;clear hB h1 rx sx;obtain ⟨hB,rx⟩:=stp;have sx:=RF3 rx;go_wp2;go_ret;exact ⟨rfl,hB⟩
theorem awrong_some (s:Int) {q:Rat} (h:QDig 200 q) (w:World) (he:Env w):Calls Tryz.prog 74 #[.agg #[.int .i64 s,.string (S q.num),.string (S (q.den:Int))]] w (BoolOk (decide (q=0)) w):=by
 have hB:Below w.heap.size w w:=Below.refl _ _;have MB:=fun W (H:Env W)=>qvalid q h W H
 have MZ:=fun W (H:Env W)=>nzero q W H
 generalize decide (q=0)=v at *;unfold BoolOk Q at *;clear h;go_enter Tryz.func74, Tryz.ntmps74;go_wp2_with fail;have sB:=hB.size;refine world_cut (fun X=>Below w.heap.size w X∧Row X w.heap.size (oT s q)) ⟨BW,RWh⟩ ?_;clear hB sB;rintro V1 ⟨hB,rx⟩;have sx:=RF3 rx;refine (MB _ (he.below hB)).mono ?_;rintro e W2 ⟨rfl,h1⟩;have stp:=St1 hB h1 rx;clear hB h1 rx sx;obtain ⟨hB,rx⟩:=stp;have sx:=RF3 rx;go_wp2_with fail;clear rx sx;refine (MZ _ (he.below hB)).mono ?_;rintro e W3 ⟨rfl,h1⟩;have stp:=St0 hB h1;clear hB h1;have hB:=stp;clear stp;go_wp2;go_ret;exact ⟨rfl,hB⟩
theorem awrong (x:RT) {o:Option Rat} (h:RK x.a x.b o) (w:World) (he:Env w):Calls Tryz.prog 74 #[uV x] w (BoolOk (wrongO o) w):=by
 cases o with
 | none=>exact awrong_none x h w he
 | some q =>
  obtain ⟨ha,hb,hq⟩:=h;unfold uV;rw [ha,hb];exact awrong_some x.s hq w he
def vfB (oc orr:Option Rat) (ot:Nat→Option Rat) (l:List RT) (n:Nat):Bool :=
 oc.isSome && (orr.isSome && ((match orr with | some q=>decide (0≤q) | none=>false) && (decide (n≤64) && (decide (SrcU l) && !decide (∃ i,i<n∧wrongO (ot i)=true)))))
theorem avalid_0 {c1 c2 r1 r2:ByteArray} {l:List RT} {oc:Option Rat} (hc:RK c1 c2 oc) (p:Option Addr) (n c:Nat) (hn:l.length=n) (h1:oc.isSome=false)  (w:World) (hp:UAt 55 w p l) (he:Env w):Calls Tryz.prog 23 #[.agg #[.string c1,.string c2,.slice p n c,.string r1,.string r2]] w (BoolOk false w):=by
 have hB:Below w.heap.size w w:=Below.refl _ _;have HP:=Lib.hid hp;clear hp;have MC:=fun W (H:Env W)=>hc.valid W H
 rw [h1] at MC;unfold BoolOk at *;clear hc h1;go_enter Tryz.func23, Tryz.ntmps23;go_wp2_with fail;have sB:=hB.size;refine world_cut (fun X=>Below w.heap.size w X∧Row X w.heap.size (.cells #[.string c1,.string c2,.slice p n c,.string r1,.string r2] 30)) ⟨BW,RWh⟩ ?_;clear hB sB;rintro V1 ⟨hB,rf⟩;have sf:=RF5 rf;refine (MC _ (he.below hB)).mono ?_;rintro e W2 ⟨rfl,h1⟩;have stp:=St1 hB h1 rf;clear hB h1 rf sf;obtain ⟨hB,rf⟩:=stp;have sf:=RF5 rf;go_wp2;go_ret;exact ⟨rfl,hB⟩
theorem avalid_1 {c1 c2 r1 r2:ByteArray} {l:List RT} {oc:Option Rat} (hc:RK c1 c2 oc) {orr:Option Rat} (hr:RK r1 r2 orr) (p:Option Addr) (n c:Nat) (hn:l.length=n) (h1:oc.isSome=true) (h2:orr.isSome=false)  (w:World) (hp:UAt 55 w p l) (he:Env w):Calls Tryz.prog 23 #[.agg #[.string c1,.string c2,.slice p n c,.string r1,.string r2]] w (BoolOk false w):=by
 have hB:Below w.heap.size w w:=Below.refl _ _;have HP:=Lib.hid hp;clear hp;have MC:=fun W (H:Env W)=>hc.valid W H
 rw [h1] at MC;have MR:=fun W (H:Env W)=>hr.valid W H
 rw [h2] at MR;unfold BoolOk at *;clear hc h1 hr h2;go_enter Tryz.func23, Tryz.ntmps23;go_wp2_with fail;have sB:=hB.size;refine world_cut (fun X=>Below w.heap.size w X∧Row X w.heap.size (.cells #[.string c1,.string c2,.slice p n c,.string r1,.string r2] 30)) ⟨BW,RWh⟩ ?_;clear hB sB;rintro V1 ⟨hB,rf⟩;have sf:=RF5 rf;refine (MC _ (he.below hB)).mono ?_;rintro e W2 ⟨rfl,h1⟩;have stp:=St1 hB h1 rf;clear hB h1 rf sf;obtain ⟨hB,rf⟩:=stp;have sf:=RF5 rf;go_wp2_with fail;refine (MR _ (he.below hB)).mono ?_;rintro e W3 ⟨rfl,h1⟩;have stp:=St1 hB h1 rf;clear hB h1 rf sf;obtain ⟨hB,rf⟩:=stp;have sf:=RF5 rf;go_wp2;go_ret;exact ⟨rfl,hB⟩
theorem avalid_2 {c1 c2:ByteArray} {l:List RT} {oc:Option Rat} (hc:RK c1 c2 oc) {q:Rat} (hq:QDig 200 q) (p:Option Addr) (n c:Nat) (hn:l.length=n) (h1:oc.isSome=true) (h3:¬ 0≤q)  (w:World) (hp:UAt 55 w p l) (he:Env w):Calls Tryz.prog 23 #[.agg #[.string c1,.string c2,.slice p n c,.string (S q.num),.string (S (q.den:Int))]] w (BoolOk false w):=by
 have hB:Below w.heap.size w w:=Below.refl _ _;have HP:=Lib.hid hp;clear hp;have MC:=fun W (H:Env W)=>hc.valid W H
 rw [h1] at MC;have MR:=fun W (H:Env W)=>qvalid q hq W H
 have MG:=fun W (H:Env W)=>nsign hq W H
 have h3d:decide (0≤cmpQ q 0)=false:=decide_eq_false (fun e=>h3 (cmpQ_ge.1 e));unfold CmpOk at MG;generalize cmpQ q 0=g at *;unfold BoolOk at *;unfold Q at *;clear hc h1 hq h3;go_enter Tryz.func23, Tryz.ntmps23;go_wp2_with fail;have sB:=hB.size;refine world_cut (fun X=>Below w.heap.size w X∧Row X w.heap.size (.cells #[.string c1,.string c2,.slice p n c,.string (S q.num),.string (S (q.den:Int))] 30)) ⟨BW,RWh⟩ ?_;clear hB sB;rintro V1 ⟨hB,rf⟩;have sf:=RF5 rf;refine (MC _ (he.below hB)).mono ?_;rintro e W2 ⟨rfl,h1⟩;have stp:=St1 hB h1 rf;clear hB h1 rf sf;obtain ⟨hB,rf⟩:=stp;have sf:=RF5 rf;go_wp2_with fail;refine (MR _ (he.below hB)).mono ?_;rintro e W3 ⟨rfl,h1⟩;have stp:=St1 hB h1 rf;clear hB h1 rf sf;obtain ⟨hB,rf⟩:=stp;have sf:=RF5 rf;go_wp2_with fail;refine (MG _ (he.below hB)).mono ?_;rintro e W4 ⟨rfl,h1⟩;have stp:=St1 hB h1 rf;clear hB h1 rf sf;obtain ⟨hB,rf⟩:=stp;have sf:=RF5 rf;go_wp2;go_ret;exact ⟨rfl,hB⟩
theorem avalid_3 {c1 c2:ByteArray} {l:List RT} {oc:Option Rat} (hc:RK c1 c2 oc) {q:Rat} (hq:QDig 200 q) (p:Option Addr) (n c:Nat) (hn:l.length=n) (h1:oc.isSome=true) (h3:0≤q) (h4:¬ n≤64)  (w:World) (hp:UAt 55 w p l) (he:Env w):Calls Tryz.prog 23 #[.agg #[.string c1,.string c2,.slice p n c,.string (S q.num),.string (S (q.den:Int))]] w (BoolOk false w):=by
 have hB:Below w.heap.size w w:=Below.refl _ _;have HP:=Lib.hid hp;clear hp;have MC:=fun W (H:Env W)=>hc.valid W H
 rw [h1] at MC;have MR:=fun W (H:Env W)=>qvalid q hq W H
 have MG:=fun W (H:Env W)=>nsign hq W H
 have h3d:decide (0≤cmpQ q 0)=true:=decide_eq_true (cmpQ_ge.2 h3);unfold CmpOk at MG;generalize cmpQ q 0=g at *;have h4d:¬ (n:Int)≤64:=by omega
 unfold BoolOk at *;unfold Q at *;clear hc h1 hq h3 h4;go_enter Tryz.func23, Tryz.ntmps23;go_wp2_with fail;have sB:=hB.size;refine world_cut (fun X=>Below w.heap.size w X∧Row X w.heap.size (.cells #[.string c1,.string c2,.slice p n c,.string (S q.num),.string (S (q.den:Int))] 30)) ⟨BW,RWh⟩ ?_;clear hB sB;rintro V1 ⟨hB,rf⟩;have sf:=RF5 rf;refine (MC _ (he.below hB)).mono ?_;rintro e W2 ⟨rfl,h1⟩;have stp:=St1 hB h1 rf;clear hB h1 rf sf;obtain ⟨hB,rf⟩:=stp;have sf:=RF5 rf;go_wp2_with fail;refine (MR _ (he.below hB)).mono ?_;rintro e W3 ⟨rfl,h1⟩;have stp:=St1 hB h1 rf;clear hB h1 rf sf;obtain ⟨hB,rf⟩:=stp;have sf:=RF5 rf;go_wp2_with fail;refine (MG _ (he.below hB)).mono ?_;rintro e W4 ⟨rfl,h1⟩;have stp:=St1 hB h1 rf;clear hB h1 rf sf;obtain ⟨hB,rf⟩:=stp;have sf:=RF5 rf;go_wp2;go_ret;exact ⟨rfl,hB⟩
theorem avalid_4 {c1 c2:ByteArray} {l:List RT} {oc:Option Rat} (hc:RK c1 c2 oc) {q:Rat} (hq:QDig 200 q) (p:Option Addr) (n c:Nat) (hn:l.length=n) (h1:oc.isSome=true) (h3:0≤q) (h4:n≤64) (h5:¬ SrcU l)  (w:World) (hp:UAt 55 w p l) (he:Env w):Calls Tryz.prog 23 #[.agg #[.string c1,.string c2,.slice p n c,.string (S q.num),.string (S (q.den:Int))]] w (BoolOk false w):=by
 have hB:Below w.heap.size w w:=Below.refl _ _;have HP:=Lib.hid hp;clear hp;have MC:=fun W (H:Env W)=>hc.valid W H
 rw [h1] at MC;have MR:=fun W (H:Env W)=>qvalid q hq W H
 have MG:=fun W (H:Env W)=>nsign hq W H
 have h3d:decide (0≤cmpQ q 0)=true:=decide_eq_true (cmpQ_ge.2 h3);unfold CmpOk at MG;generalize cmpQ q 0=g at *;have h4d:(n:Int)≤64:=by omega
 have MA:=fun W (hp:UAt 55 W p l)=>aare p n c hn (by omega) W hp
 rw [decide_eq_false h5] at MA;unfold BoolOk at MA;unfold BoolOk at *;unfold Q at *;clear hc h1 hq h3 h5 h4;go_enter Tryz.func23, Tryz.ntmps23;go_wp2_with fail;have sB:=hB.size;refine world_cut (fun X=>Below w.heap.size w X∧Row X w.heap.size (.cells #[.string c1,.string c2,.slice p n c,.string (S q.num),.string (S (q.den:Int))] 30)) ⟨BW,RWh⟩ ?_;clear hB sB;rintro V1 ⟨hB,rf⟩;have sf:=RF5 rf;refine (MC _ (he.below hB)).mono ?_;rintro e W2 ⟨rfl,h1⟩;have stp:=St1 hB h1 rf;clear hB h1 rf sf;obtain ⟨hB,rf⟩:=stp;have sf:=RF5 rf;go_wp2_with fail;refine (MR _ (he.below hB)).mono ?_;rintro e W3 ⟨rfl,h1⟩;have stp:=St1 hB h1 rf;clear hB h1 rf sf;obtain ⟨hB,rf⟩:=stp;have sf:=RF5 rf;go_wp2_with fail;refine (MG _ (he.below hB)).mono ?_;rintro e W4 ⟨rfl,h1⟩;have stp:=St1 hB h1 rf;clear hB h1 rf sf;obtain ⟨hB,rf⟩:=stp;have sf:=RF5 rf;go_wp2_with fail;refine (MA _ (UAt.below HP.out hB)).mono ?_;rintro e W5 ⟨rfl,h1⟩;have stp:=St1 hB h1 rf;clear hB h1 rf sf;obtain ⟨hB,rf⟩:=stp;have sf:=RF5 rf;go_wp2;go_ret;exact ⟨rfl,hB⟩
theorem avalid_5 {c1 c2:ByteArray} {l:List RT} {oc:Option Rat} (hc:RK c1 c2 oc) {q:Rat} (hq:QDig 200 q) {ot:Nat→Option Rat} (p:Option Addr) (n c:Nat) (hn:l.length=n) (ht:∀ i,i<n→RK (uD l i).a (uD l i).b (ot i)) (h1:oc.isSome=true) (h3:0≤q) (h4:n≤64) (h5:SrcU l)  (w:World) (hp:UAt 55 w p l) (he:Env w):Calls Tryz.prog 23 #[.agg #[.string c1,.string c2,.slice p n c,.string (S q.num),.string (S (q.den:Int))]] w (BoolOk (!decide (∃ i,i<n∧wrongO (ot i)=true)) w):=by
 have hB:Below w.heap.size w w:=Below.refl _ _;have HP:=Lib.hid hp;clear hp;have MC:=fun W (H:Env W)=>hc.valid W H
 rw [h1] at MC;have MR:=fun W (H:Env W)=>qvalid q hq W H
 have MG:=fun W (H:Env W)=>nsign hq W H
 have h3d:decide (0≤cmpQ q 0)=true:=decide_eq_true (cmpQ_ge.2 h3);unfold CmpOk at MG;generalize cmpQ q 0=g at *;have h4d:(n:Int)≤64:=by omega
 have MA:=fun W (hp:UAt 55 W p l)=>aare p n c hn (by omega) W hp
 rw [decide_eq_true h5] at MA;unfold BoolOk at MA;have MW:=fun W (hp:UAt 55 W p l) (H:Env W)=>tcontains (l:=l) (fun i=>wrongO (ot i)) 74 (enters_of Tryz.func74 (by kernel_rfl) rfl) p n c hn (by omega) W hp (fun i hi X hX=>awrong (uD l i) (ht i hi) X (H.below hX))
 generalize decide (∃ i,i<n∧wrongO (ot i)=true)=v at *;unfold BoolOk at MW;unfold BoolOk at *;unfold Q at *;clear hc h1 hq h3 h5 ht h4;go_enter Tryz.func23, Tryz.ntmps23;go_wp2_with fail;have sB:=hB.size;refine world_cut (fun X=>Below w.heap.size w X∧Row X w.heap.size (.cells #[.string c1,.string c2,.slice p n c,.string (S q.num),.string (S (q.den:Int))] 30)) ⟨BW,RWh⟩ ?_;clear hB sB;rintro V1 ⟨hB,rf⟩;have sf:=RF5 rf;refine (MC _ (he.below hB)).mono ?_;rintro e W2 ⟨rfl,h1⟩;have stp:=St1 hB h1 rf;clear hB h1 rf sf;obtain ⟨hB,rf⟩:=stp;have sf:=RF5 rf;go_wp2_with fail;refine (MR _ (he.below hB)).mono ?_;rintro e W3 ⟨rfl,h1⟩;have stp:=St1 hB h1 rf;clear hB h1 rf sf;obtain ⟨hB,rf⟩:=stp;have sf:=RF5 rf;go_wp2_with fail;refine (MG _ (he.below hB)).mono ?_;rintro e W4 ⟨rfl,h1⟩;have stp:=St1 hB h1 rf;clear hB h1 rf sf;obtain ⟨hB,rf⟩:=stp;have sf:=RF5 rf;go_wp2_with fail;refine (MA _ (UAt.below HP.out hB)).mono ?_;rintro e W5 ⟨rfl,h1⟩;have stp:=St1 hB h1 rf;clear hB h1 rf sf;obtain ⟨hB,rf⟩:=stp;have sf:=RF5 rf;go_wp2_with fail;clear rf sf;refine (MW _ (UAt.below HP.out hB) (he.below hB)).mono ?_;rintro e W6 ⟨rfl,h1⟩;have stp:=St0 hB h1;clear hB h1;have hB:=stp;clear stp;go_wp2;go_ret;exact ⟨rfl,hB⟩
theorem avalid {c1 c2 r1 r2:ByteArray} {l:List RT} {oc orr:Option Rat} {ot:Nat→Option Rat} (hc:RK c1 c2 oc) (hr:RK r1 r2 orr) {n:Nat} (ht:∀ i,i<n→RK (uD l i).a (uD l i).b (ot i)) (p:Option Addr) (c:Nat) (hn:l.length=n) (w:World) (hp:UAt 55 w p l) (he:Env w) :
  Calls Tryz.prog 23 #[.agg #[.string c1,.string c2,.slice p n c,.string r1,.string r2]] w (BoolOk (vfB oc orr ot l n) w):=by
 unfold vfB
 cases h1:oc.isSome with
 | false=>exact avalid_0 hc p n c hn h1 w hp he
 | true =>
  cases orr with
  | none=>exact avalid_1 hc hr p n c hn h1 rfl w hp he
  | some q =>
   obtain ⟨rfl,rfl,hq⟩:=hr;by_cases h3:0≤q
   ·by_cases h4:n≤64
    ·by_cases h5:SrcU l
     ·simp only [Option.isSome_some,Bool.true_and,decide_eq_true h3,decide_eq_true h4,decide_eq_true h5];exact avalid_5 hc hq p n c hn ht h1 h3 h4 h5 w hp he
     ·simp only [decide_eq_false h5,Bool.false_and,Bool.and_false];exact avalid_4 hc hq p n c hn h1 h3 h4 h5 w hp he
    ·simp only [decide_eq_false h4,Bool.false_and,Bool.and_false];exact avalid_3 hc hq p n c hn h1 h3 h4 w hp he
   ·simp only [decide_eq_false h3,Bool.false_and,Bool.and_false];exact avalid_2 hc hq p n c hn h1 h3 w hp he
theorem vf_ok {f:Frm} (h:f.Ok):vfB (some f.c) (some f.r) (fun i=>some (trD f.t i).c) (raws f.t) f.t.length=true:=by
 unfold vfB;simp only [Option.isSome_some,Bool.true_and,decide_eq_true h.rest,decide_eq_true h.few,decide_eq_true (srcU_of h.src)];rw [decide_eq_false]
 ·rfl
 ·rintro ⟨i,hi,hw⟩;exact h.nz _ (trD_mem hi) (of_decide_eq_true hw)
theorem avalid_ok {f:Frm} (ho:f.Ok) (hd:FDig 200 f) (p:Option Addr) (c:Nat) (w:World) (hp:TAt 55 w p f.t) (he:Env w):Calls Tryz.prog 23 #[FV f p c] w (BoolOk true w):=by
 have h:=avalid (l:=raws f.t) (n:=f.t.length) (RK.of hd.c) (RK.of hd.r) (ot:=fun i=>some (trD f.t i).c) (fun i hi=>by rw [raws_at hi];exact RK.of (hd.t _ (trD_mem hi))) p c (raws_length f.t) w hp he;rw [vf_ok ho] at h;exact h
end Go.Proofs.YtdikaoahgleffaaGreatDoor
namespace Go.Proofs.YtdikaoahgleffaaGreatDoor
open Go Go.RowKit Go.Lib Go.Shelf
def isNew (o:Oper):Bool:=(match o.op with | .alloc _=>true | _=>false) && o.guard.isNone
theorem new_run {P:Program} {ρ:Operand→Value} {o:Oper} {W W':World} {n:Next} (h:isNew o=true) (hr:(execOp ρ o).run P W = .ok n W'):n = .value (.pointer (some ⟨W.heap.size,0,none⟩))∧W.heap.size<W'.heap.size:=by
 unfold isNew at h;rw [Bool.and_eq_true] at h;have h1:=h.1
 cases ho:o.op with
 | alloc e =>
  simp [execOp,ho,go_sem] at hr
  cases hz:Sem.run P (zeroValue e) W with
  | halt x W1=>rw [hz] at hr;cases hr
  | ok v W1 =>
   rw [hz] at hr;simp only [Result.andThen,Result.ok.injEq] at hr;have hw:W1=W:=by
    unfold zeroValue typeInfo at hz
    cases hi:P.info? e with
    | none=>simp [go_sem,hi] at hz
    | some i =>
     cases hzz:i.zero with
     | none=>simp [go_sem,hi,hzz] at hz
     | some z=>simp [go_sem,hi,hzz] at hz;exact hz.2.symm
   obtain ⟨rfl,rfl⟩:=hr;subst hw;exact ⟨rfl,by simp⟩
 | _=>simp [ho] at h1
structure ApartAt (ops:Array Oper) (listed:Array Bool) (a:Act) (W:World):Prop where
 old:∀ i (o:Oper) t,ops[i]? = some o→isNew o=true→o.dst=some t→listed.getD i false=true→∃ b,a.eval (.tmp t) = .pointer (some ⟨b,0,none⟩)∧b<W.heap.size
 apart:∀ i j (o p:Oper) t s,ops[i]? = some o→ops[j]? = some p→isNew o=true→isNew p=true→o.dst=some t→p.dst=some s→i≠j→listed.getD i false=true→listed.getD j false=true→a.eval (.tmp t)≠a.eval (.tmp s)
theorem quietAt_step2 {P:Program} {ops:Array Oper} {Q:Exit→Act→World→Prop} {Sp:Nat→QSay} {tmps:Array Value} {ds:List Deferred} {w:World} {fl:List Oper}
  (hmono:∀ i v W W',Sp i v W→Below W.heap.size W W'→Sp i v W') (hfit:quietFit ops tmps.size=true)
  {i:Nat} {o:Oper} {listed:Array Bool} {a:Act} {W:World} (hob0:quietOb P ops fl Sp tmps w i o) (hfl:∀ j (p:Oper),ops[j]? = some p→listed.getD j false=true→p ∈ fl) (ho:ops[i]? = some o) (hJ:QuietAt ops Sp tmps ds w listed a W) (hA:ApartAt ops listed a W)
  (hni:listed.getD i false=false) (hdep:∀ e ∈ o.after,Region.binds .any e=true→listed.getD e.on false=true) :
  wpOp P ops Q i (fun a' W'=>QuietAt ops Sp tmps ds w (listed.setIfInBounds i true) a' W'∧ApartAt ops (listed.setIfInBounds i true) a' W') a W:=by
 have hob:=hob0 a.eval W hJ.below (fun _=>rfl) (fun _=>rfl) (fun _=>rfl)
  (fun t ht=>by rw [eval_tmp,Array.getD_eq_getD_getElem?,Array.getD_eq_getD_getElem?,hJ.same t (fun j p hp hl=>foreign_mem ht (hfl j p hp hl))])
  (depsSay_of _ fun e he hb p t hp ht=>hJ.done e.on p t hp ht (hdep e (by simpa using he) hb))
 have other:∀ v j (p:Oper) t,ops[j]? = some p→p.dst=some t→j≠i→(a.put o.dst v).eval (.tmp t)=a.eval (.tmp t):=by
  intro v j p t hp ht hji;have h2:=quietFit.own hfit hp ho ht (Ne.symm hji);rw [eval_tmp,eval_tmp];unfold Act.put
  cases hd:o.dst with
  | none=>rfl
  | some d =>
   have:d≠t:=fun e=>h2 (by rw [hd,e])
   simp only;rw [Array.getD_eq_getD_getElem?,Array.getElem?_setIfInBounds_ne this,← Array.getD_eq_getD_getElem?]
 have own:∀ v t,o.dst=some t→(a.put o.dst v).eval (.tmp t)=v:=by
  intro v t ht;rw [eval_tmp];unfold Act.put;rw [ht];simp only;rw [Array.getD_eq_getD_getElem?,Array.getElem?_setIfInBounds_self,if_pos (by rw [hJ.size];exact quietFit.lt hfit ho ht)];rfl
 have fin:∀ v W',Sp i v W'→Below W.heap.size W W'→(isNew o=true→v = .pointer (some ⟨W.heap.size,0,none⟩)∧W.heap.size<W'.heap.size)→QuietAt ops Sp tmps ds w (listed.setIfInBounds i true) (a.put o.dst v) W'∧ApartAt ops (listed.setIfInBounds i true) (a.put o.dst v) W':=by
  intro v W' hs hB hnew;refine ⟨⟨hJ.below.trans (hB.mono hJ.below.size),?_,?_,by rw [Array.size_setIfInBounds];exact hJ.lsize,?_,?_⟩,⟨?_,?_⟩⟩
  ·rw [← hJ.defers];unfold Act.put;split <;> rfl
  ·rw [← hJ.size];unfold Act.put;split <;> simp
  ·intro j p t hp ht hj;by_cases hji:j=i
   ·subst hji;rw [ho] at hp;cases hp;rw [own v t ht];exact hs
   ·rw [other v j p t hp ht hji];exact hmono _ _ _ _ (hJ.done j p t hp ht ((listed_set hj).resolve_left hji)) hB
  ·intro t ht;have hself:o.dst≠some t:=ht i o ho (listed_self (by rw [hJ.lsize];exact (Array.getElem?_eq_some_iff.1 ho).1));rw [← hJ.same t (fun j p hp hl=>ht j p hp (listed_keep hl))];unfold Act.put
   cases hd:o.dst with
   | none=>rfl
   | some d =>
    have:d≠t:=fun e=>hself (by rw [hd,e])
    simp only;rw [Array.getElem?_setIfInBounds_ne this]
  ·intro j p t hp hn ht hj;by_cases hji:j=i
   ·subst hji;rw [ho] at hp;cases hp;rw [own v t ht];exact ⟨_,(hnew hn).1,(hnew hn).2⟩
   ·rw [other v j p t hp ht hji];obtain ⟨b,e,hb⟩:=hA.old j p t hp hn ht ((listed_set hj).resolve_left hji);exact ⟨b,e,Nat.lt_of_lt_of_le hb hB.size⟩
  ·intro j k p q t s hp hq hnp hnq ht hs' hne hj hk;by_cases hji:j=i
   ·subst hji;rw [ho] at hp;cases hp;rw [own v t ht,other v k q s hq hs' (Ne.symm hne),(hnew hnp).1];obtain ⟨b,e,hb⟩:=hA.old k q s hq hnq hs' ((listed_set hk).resolve_left (Ne.symm hne));rw [e];intro h;simp at h
    try omega
   ·rw [other v j p t hp ht hji];by_cases hki:k=i
    ·subst hki;rw [ho] at hq;cases hq;rw [own v s hs',(hnew hnq).1];obtain ⟨b,e,hb⟩:=hA.old j p t hp hnp ht ((listed_set hj).resolve_left hji);rw [e];intro h;simp at h
     try omega
    ·rw [other v k q s hq hs' hki];exact hA.apart j k p q t s hp hq hnp hnq ht hs' hne ((listed_set hj).resolve_left hji) ((listed_set hk).resolve_left hki)
 unfold wpOp;simp only [ho];rw [yielded_by];split at hob
 ·rename_i hw;rw [if_pos hw];left;unfold Oper.wp Oper.upon
  cases hr:(execOp a.eval o).run P W with
  | ok n W' =>
   rw [hr] at hob
   cases n with
   | value v=>exact fin v W' hob.1 hob.2 (fun hn=>by have:=new_run hn hr;simpa using this)
   | skip=>exact fin _ W' hob.1 hob.2 (fun hn=>by have:=new_run hn hr;cases this.1)
   | enter f args =>
    refine Calls.mono hob.2 fun e W'' he => ?_
    obtain ⟨v,rfl,hs,hB⟩:=he;exact fin v W'' hs (hob.1.trans (hB.mono hob.1.size)) (fun hn=>by have:=new_run hn hr;cases this.1)
   | _=>exact hob.elim
  | halt x W'=>rw [hr] at hob;exact hob.elim
 ·rename_i hw;rw [if_neg hw];refine fin _ W hob (Below.refl _ _) (fun hn => ?_);exfalso;apply hw;unfold isNew at hn;rw [Bool.and_eq_true] at hn;have hg:o.guard=none:=by simpa using hn.2
  simp [Region.wanted,hg]
def newDsts:List Oper→List Nat
 | []=>[]
 | o :: l=>match o.dst with | some t=>if isNew o then t :: newDsts l else newDsts l | none=>newDsts l
def Apart (L:List Nat) (T:Array Value):Prop:=L.Pairwise fun t s=>T.getD t undef≠T.getD s undef
theorem mem_newDsts {t:Nat}:∀ {l:List Oper},t ∈ newDsts l→∃ (i:Nat) (o:Oper),l[i]? = some o∧isNew o=true∧o.dst=some t
 | [],h=>by cases h
 | o :: l,h=>by
  have back:t ∈ newDsts l→∃ (i:Nat) (p:Oper),(o :: l)[i]? = some p∧isNew p=true∧p.dst=some t:=fun h=>by
   obtain ⟨i,p,h1,h2⟩:=mem_newDsts h;exact ⟨i+1,p,by simpa using h1,h2⟩
  unfold newDsts at h
  cases hd:o.dst with
  | none=>rw [hd] at h;exact back h
  | some d =>
   rw [hd] at h;simp only at h;split at h
   ·rename_i hn;rcases List.mem_cons.1 h with rfl | h
    ·exact ⟨0,o,rfl,hn,hd⟩
    ·exact back h
   ·exact back h
theorem apart_of {T:Array Value}:∀ {l:List Oper},(∀ (i j:Nat) (o p:Oper) (t s:Nat),l[i]? = some o→l[j]? = some p→isNew o=true→isNew p=true→o.dst=some t→p.dst=some s→i≠j→T.getD t undef≠T.getD s undef)→Apart (newDsts l) T
 | [],_=>List.Pairwise.nil
 | o :: l,h=>by
  have ih:Apart (newDsts l) T:=apart_of fun i j p q t s hp hq h1 h2 h3 h4 hne=>h (i+1) (j+1) p q t s (by simpa using hp) (by simpa using hq) h1 h2 h3 h4 (by omega)
  unfold newDsts
  cases hd:o.dst with
  | none=>exact ih
  | some d =>
   simp only;split
   ·rename_i hn;refine List.Pairwise.cons (fun s hs => ?_) ih;obtain ⟨j,p,hp,hnp,hps⟩:=mem_newDsts hs;exact h 0 (j+1) o p d s rfl (by simpa using hp) hn hnp hd hps (by omega)
   ·exact ih
end Go.Proofs.YtdikaoahgleffaaGreatDoor
namespace Go.Proofs.YtdikaoahgleffaaGreatDoor
open Go Go.RowKit Go.Lib Go.Shelf
def normalQ (Q:Exit→Act→World→Prop):Exit→Act→World→Prop
 | .normal,a,w=>Q .normal a w
 | _,_,_=>False
def isPure (o:Oper):Bool:=(match o.op with | .extract _ _=>true | .move _=>true | .assign _=>true | _=>false) && o.guard.isNone
def isSimple (o:Oper):Bool:=(match o.op with | .extract _ _=>true | .move _=>true | .assign _=>true | .store _ _ _=>true | .indexAddr _ _ _=>true | _=>false) && o.guard.isNone
theorem isPure_simple {o:Oper} (h:isPure o=true):isSimple o=true:=by
 unfold isPure at h;unfold isSimple;rw [Bool.and_eq_true] at h ⊢;refine ⟨?_,h.2⟩;have h1:=h.1
 cases ho:o.op <;> simp [ho] at h1 ⊢
theorem isSimple_guard {o:Oper} (h:isSimple o=true):o.guard=none:=by
 unfold isSimple at h;rw [Bool.and_eq_true] at h;simpa using h.2
theorem exec_congr {ρ ρ':Operand→Value} {o:Oper} (h:isSimple o=true) (ha:∀ x ∈ o.op.operands,ρ x=ρ' x):execOp ρ o=execOp ρ' o:=by
 unfold isSimple at h;rw [Bool.and_eq_true] at h;have h1:=h.1
 cases ho:o.op with
 | extract x i =>
  have:=ha x (by simp [ho,Op.operands]);simp [execOp,ho,this]
 | move x =>
  have:=ha x (by simp [ho,Op.operands]);simp [execOp,ho,this]
 | assign x =>
  have:=ha x (by simp [ho,Op.operands]);simp [execOp,ho,this]
 | store t x y =>
  have e1:=ha x (by simp [ho,Op.operands]);have e2:=ha y (by simp [ho,Op.operands]);simp [execOp,ho,e1,e2]
 | indexAddr t x y =>
  have e1:=ha x (by simp [ho,Op.operands]);have e2:=ha y (by simp [ho,Op.operands]);simp [execOp,ho,e1,e2]
 | _=>simp [ho] at h1
theorem simple_run {P:Program} {ρ:Operand→Value} {o:Oper} {W W':World} {n:Next} (h:isSimple o=true) (hr:(execOp ρ o).run P W = .ok n W'):n = .skip∨∃ v,n = .value v:=by
 unfold isSimple at h;rw [Bool.and_eq_true] at h;have h1:=h.1
 cases ho:o.op with
 | extract x i =>
  have e:execOp ρ o=(Instr.extract (ρ x) i >>= fun v=>pure (.value v)):=by simp only [execOp,ho]
  rw [e,Sem.run_bind] at hr
  cases hz:Sem.run P (Instr.extract (ρ x) i) W with
  | halt y W1=>rw [hz] at hr;cases hr
  | ok v W1=>rw [hz] at hr;simp [Result.andThen] at hr;exact .inr ⟨v,hr.1.symm⟩
 | move x=>simp [execOp,ho,go_sem] at hr;exact .inr ⟨_,hr.1.symm⟩
 | assign x=>simp [execOp,ho,go_sem] at hr;exact .inr ⟨_,hr.1.symm⟩
 | store t x y =>
  have e:execOp ρ o=(Instr.storeAt t (ρ x) (ρ y) >>= fun _=>pure .skip):=by simp only [execOp,ho]
  rw [e,Sem.run_bind] at hr
  cases hz:Sem.run P (Instr.storeAt t (ρ x) (ρ y)) W with
  | halt y W1=>rw [hz] at hr;cases hr
  | ok v W1=>rw [hz] at hr;simp [Result.andThen] at hr;exact .inl hr.1.symm
 | indexAddr t x y =>
  have e:execOp ρ o=(Instr.indexAt t (ρ x) (ρ y) >>= fun v=>pure (.value v)):=by simp only [execOp,ho]
  rw [e,Sem.run_bind] at hr
  cases hz:Sem.run P (Instr.indexAt t (ρ x) (ρ y)) W with
  | halt y W1=>rw [hz] at hr;cases hr
  | ok v W1=>rw [hz] at hr;simp [Result.andThen] at hr;exact .inr ⟨v,hr.1.symm⟩
 | _=>simp [ho] at h1
theorem pure_run {P:Program} {ρ:Operand→Value} {o:Oper} {W W':World} {n:Next} (h:isPure o=true) (hr:(execOp ρ o).run P W = .ok n W'):∃ v,n = .value v∧∀ X,(execOp ρ o).run P X = .ok (.value v) X:=by
 unfold isPure at h;rw [Bool.and_eq_true] at h;have h1:=h.1
 cases ho:o.op with
 | extract x i =>
  cases hx:ρ x with
  | tuple vs =>
   cases hv:vs[i]? with
   | none=>simp [execOp,ho,go_sem,Instr.extract,hx,hv] at hr
   | some u=>simp [execOp,ho,go_sem,Instr.extract,hx,hv] at hr;exact ⟨u,hr.1.symm,fun X=>by simp [execOp,ho,go_sem,Instr.extract,hx,hv]⟩
  | _=>simp [execOp,ho,go_sem,Instr.extract,hx] at hr
 | move x=>simp [execOp,ho,go_sem] at hr;exact ⟨_,hr.1.symm,fun X=>by simp [execOp,ho,go_sem]⟩
 | assign x=>simp [execOp,ho,go_sem] at hr;exact ⟨_,hr.1.symm,fun X=>by simp [execOp,ho,go_sem]⟩
 | _=>simp [ho] at h1
def waits (o:Oper) (j:Nat):Bool:=o.after.any fun e=>decide (e.on=j) && Region.binds .any e
theorem waits_get {o:Oper} {j:Nat} (h:waits o j=true):∃ e ∈ o.after,e.on=j∧Region.binds .any e=true:=by
 obtain ⟨e,he,h3⟩:=Array.any_eq_true'.1 h;simp only [Bool.and_eq_true,decide_eq_true_eq] at h3;exact ⟨e,he,h3⟩
def waitsT (ops:Array Oper):Nat→Oper→Nat→Bool
 | 0,o,j=>waits o j
 | f+1,o,j=>waits o j || o.after.any fun e=>Region.binds .any e && (match ops[e.on]? with | some p=>waitsT ops f p j | none=>false)
def Closed (ops:Array Oper) (listed:Array Bool):Prop:=∀ i (o:Oper),ops[i]? = some o→listed.getD i false=true→∀ e ∈ o.after,Region.binds .any e=true→listed.getD e.on false=true
theorem waitsT_listed {ops:Array Oper} {listed:Array Bool} (hc:Closed ops listed):∀ (f:Nat) (o:Oper) (j:Nat),(∀ e ∈ o.after,Region.binds .any e=true→listed.getD e.on false=true)→waitsT ops f o j=true→listed.getD j false=true
 | 0,o,j,hd,h=>by
  obtain ⟨e,he,hek,hb⟩:=waits_get h;rw [← hek];exact hd e he hb
 | f+1,o,j,hd,h=>by
  unfold waitsT at h;rw [Bool.or_eq_true] at h;rcases h with h | h
  ·obtain ⟨e,he,hek,hb⟩:=waits_get h;rw [← hek];exact hd e he hb
  ·obtain ⟨e,he,h3⟩:=Array.any_eq_true'.1 h;rw [Bool.and_eq_true] at h3
   cases hp:ops[e.on]? with
   | none=>rw [hp] at h3;cases h3.2
   | some p =>
    rw [hp] at h3;exact waitsT_listed hc f p j (hc e.on p hp (hd e he h3.1)) h3.2
theorem closed_set {ops:Array Oper} {listed:Array Bool} {i:Nat} {o:Oper} (hc:Closed ops listed) (ho:ops[i]? = some o) (hd:∀ e ∈ o.after,Region.binds .any e=true→listed.getD e.on false=true):Closed ops (listed.setIfInBounds i true):=by
 intro j p hp hj e he hb;refine listed_keep ?_;rcases listed_set hj with rfl | hj
 ·rw [ho] at hp;cases hp;exact hd e he hb
 ·exact hc j p hp hj e he hb
def clearOf (ops:Array Oper) (o:Oper) (D:List Nat):Bool:=o.op.operands.all fun x=>D.all fun c=>match x,ops[c]? with | .tmp t,some p=>p.dst != some t | _,_=>true
theorem clearOf_get {ops:Array Oper} {o:Oper} {D:List Nat} (h:clearOf ops o D=true) {t c:Nat} (hx:Operand.tmp t ∈ o.op.operands) (hc:c ∈ D) {p:Oper} (hp:ops[c]? = some p):p.dst≠some t:=by
 unfold clearOf at h;rw [Array.all_eq_true_iff_forall_mem] at h;have h1:=h _ hx;rw [List.all_eq_true] at h1;have h2:=h1 c hc;rw [hp] at h2;simpa using h2
def lateFit (ops:Array Oper) (n:Nat) (C:List Nat):Bool :=
 (C.all fun c=>decide (c<n) && match ops[c]? with | some o=>isPure o && o.dst.isSome && clearOf ops o C && clearOf ops o (List.range' n (ops.size - n)) && (C.all fun j => !waits o j) | none=>false) &&
 (List.range' n (ops.size - n)).all fun i=>match ops[i]? with
  | some o=>isSimple o && ((List.range i).all fun j=>C.contains j || waitsT ops ops.size o j) && clearOf ops o (C.filter fun c => !waits o c)
  | none=>false
structure LateC (ops:Array Oper) (n:Nat) (C:List Nat) (c:Nat) (o:Oper):Prop where
 lt:c<n
 pure_:isPure o=true
 dst:∃ t,o.dst=some t
 own:clearOf ops o C=true
 tail:clearOf ops o (List.range' n (ops.size - n))=true
 free:∀ j ∈ C,waits o j=false
theorem lateFit_late {ops:Array Oper} {n:Nat} {C:List Nat} (h:lateFit ops n C=true) {c:Nat} {o:Oper} (hc:c ∈ C) (ho:ops[c]? = some o):LateC ops n C c o:=by
 unfold lateFit at h;rw [Bool.and_eq_true,List.all_eq_true] at h;have h1:=h.1 c hc;rw [ho] at h1;simp only [Bool.and_eq_true,decide_eq_true_eq,List.all_eq_true,Bool.not_eq_true'] at h1;obtain ⟨h0,⟨⟨⟨h2,h3⟩,h4⟩,h5⟩,h6⟩:=h1;exact ⟨h0,h2,Option.isSome_iff_exists.1 h3,h4,h5,h6⟩
structure TailI (ops:Array Oper) (C:List Nat) (i:Nat) (o:Oper):Prop where
 simple:isSimple o=true
 wait:∀ j,j<i→j ∉ C→waitsT ops ops.size o j=true
 own:clearOf ops o (C.filter fun c => !waits o c)=true
theorem lateFit_tail {ops:Array Oper} {n:Nat} {C:List Nat} (h:lateFit ops n C=true) {i:Nat} {o:Oper} (hi:n≤i) (ho:ops[i]? = some o):TailI ops C i o:=by
 unfold lateFit at h;rw [Bool.and_eq_true,List.all_eq_true,List.all_eq_true] at h;have hlt:=(Array.getElem?_eq_some_iff.1 ho).1;have h1:=h.2 i (by rw [List.mem_range'_1];omega);rw [ho] at h1;simp only [Bool.and_eq_true,List.all_eq_true,Bool.or_eq_true] at h1;obtain ⟨⟨h2,h3⟩,h4⟩:=h1;exact ⟨h2,fun j hj hC=>(h3 j (List.mem_range.2 hj)).resolve_left (by simpa using hC),h4⟩
theorem put_get {a:Act} {d:Option Nat} {v:Value} {t:Nat}:(a.put d v).tmps[t]? = if d=some t then (if t<a.tmps.size then some v else none) else a.tmps[t]? := by
 unfold Act.put
 cases d with
 | none=>simp
 | some s =>
  by_cases h:s=t
  ·subst h;simp [Array.getElem?_setIfInBounds_self]
  ·simp [h,Array.getElem?_setIfInBounds_ne h]
theorem put_size {a:Act} {d:Option Nat} {v:Value}:(a.put d v).tmps.size=a.tmps.size:=by unfold Act.put;split <;> simp
theorem put_defers {a:Act} {d:Option Nat} {v:Value}:(a.put d v).defers=a.defers:=by unfold Act.put;split <;> rfl
theorem eval_congr {a b:Act} {o:Oper} (h:∀ t,Operand.tmp t ∈ o.op.operands→a.tmps[t]? = b.tmps[t]?):∀ x ∈ o.op.operands,a.eval x=b.eval x:=by
 intro x hx
 cases x with
 | tmp t=>rw [eval_tmp,eval_tmp,Array.getD_eq_getD_getElem?,Array.getD_eq_getD_getElem?,h t hx]
 | _=>rfl
theorem wpAny_late {P:Program} {ops:Array Oper} {Q:Exit→Act→World→Prop} {n N:Nat} {C:List Nat} (hfit:quietFit ops N=true) (hlate:lateFit ops n C=true) :
  ∀ (fuel:Nat) (listed:Array Bool) (a:Act) (W:World) (k:Nat) (T:Array Value),n≤k→k≤ops.size→listed.size=ops.size→Closed ops listed→(∀ i,i<k→i ∉ C→listed.getD i false=true)→(∀ i,k≤i→listed.getD i false=false) →
   a.tmps.size=N→T.size=N→(∀ t,(∀ c (o:Oper),c ∈ C→ops[c]? = some o→listed.getD c false=false→o.dst≠some t)→a.tmps[t]? = T[t]?) →
   (∀ c (o:Oper) t,c ∈ C→ops[c]? = some o→listed.getD c false=false→o.dst=some t→∀ X,(execOp a.eval o).run P X = .ok (.value (T.getD t undef)) X) →
   listed.toList.count false≤fuel→wpOps P ops (normalQ Q) (List.range' k (ops.size - k)) ⟨T,a.defers⟩ W→wpAny P .any ops Q fuel listed a W:=by
 have hdone:∀ (listed:Array Bool) (a:Act) (W:World) (k:Nat) (T:Array Value),n≤k→k≤ops.size→listed.size=ops.size→(∀ i,k≤i→listed.getD i false=false)→a.tmps.size=N→T.size=N→(∀ t,(∀ c (o:Oper),c ∈ C→ops[c]? = some o→listed.getD c false=false→o.dst≠some t)→a.tmps[t]? = T[t]?) →
   wpOps P ops (normalQ Q) (List.range' k (ops.size - k)) ⟨T,a.defers⟩ W→Region.ready .any ops listed=[]→Q .normal a W:=by
  intro listed a W k T hnk hk hs h2 hsa hsT hag h hr;have hl:∀ i,i<ops.size→listed.getD i false=true:=by
   intro i
   induction i using Nat.strongRecOn with
   | _ i ih =>
    intro hi;rcases hc:listed.getD i false with _ | _
    ·exfalso;have hm:i ∈ Region.ready .any ops listed:=by
      refine mem_ready.2 ⟨?_,ops[i],by simp [hi],fun e he hb => ?_⟩
      ·rw [Array.getD_eq_getD_getElem?] at hc ⊢;have:i<listed.size:=by rw [hs];exact hi
       rw [Array.getElem?_eq_getElem this] at hc ⊢;exact hc
      ·have h1:=quietFit.edge hfit (i:=i) (o:=ops[i]) (by simp [hi]) he hb;exact ih e.on h1 (by omega)
     rw [hr] at hm;cases hm
    ·rfl
  have hkk:k=ops.size:=by
   rcases Nat.lt_or_ge k ops.size with hlt | hge
   ·have:=hl k hlt;rw [h2 k (Nat.le_refl _)] at this;cases this
   ·omega
  have ht:a.tmps=T:=Array.ext_getElem? fun t=>hag t fun c o hc ho hn=>by
   have:=hl c (Array.getElem?_eq_some_iff.1 ho).1;rw [hn] at this;cases this
  subst hkk;rw [Nat.sub_self] at h;have h':normalQ Q .normal ⟨T,a.defers⟩ W:=h;rw [← ht] at h';exact h'
 intro fuel
 induction fuel with
 | zero =>
  intro listed a W k T hnk hk hs hclo h1 h2 hsa hsT hag hpu hc h;have hr:Region.ready .any ops listed=[]:=by
   rw [List.eq_nil_iff_forall_not_mem];intro i hi;have h3:=ready_listed hi hs;obtain ⟨_,o,ho,_⟩:=mem_ready.1 hi;have hlt:i<listed.size:=by rw [hs];exact (Array.getElem?_eq_some_iff.1 ho).1
   rw [Array.getD_eq_getD_getElem?,Array.getElem?_eq_getElem hlt] at h3;have:false ∈ listed.toList:=by
    have h4:listed[i]=false:=h3;rw [← h4];simp
   have:=List.count_pos_iff.2 this;omega
  exact ⟨hr,hdone listed a W k T hnk hk hs h2 hsa hsT hag h hr⟩
 | succ fuel ih =>
  intro listed a W k T hnk hk hs hclo h1 h2 hsa hsT hag hpu hc h;refine ⟨fun hr=>hdone listed a W k T hnk hk hs h2 hsa hsT hag h hr,fun i hi => ?_⟩;have hnl:=ready_listed hi hs;obtain ⟨h4,o,ho,hdep⟩:=mem_ready.1 hi;have hlt:i<listed.size:=by rw [hs];exact (Array.getElem?_eq_some_iff.1 ho).1
  have hcnt:(listed.setIfInBounds i true).toList.count false≤fuel:=by
   rw [Array.getD_eq_getD_getElem?,Array.getElem?_eq_getElem hlt] at h4;have h5:listed.toList[i]'(by simpa using hlt)=false:=by simpa using h4
   rw [Array.toList_setIfInBounds];have h6:=List.count_set (l:=listed.toList) (a:=true) (b:=false) (i:=i) (by simpa using hlt);have h7:0<listed.toList.count false:=List.count_pos_iff.2 (by rw [← h5];exact List.getElem_mem _);rw [h6,h5];show List.count false listed.toList - 1+0≤fuel;omega
  rcases Nat.lt_or_ge i k with hik | hik
  ·-- a late one
   have hC:i ∈ C:=by
    rcases Decidable.em (i ∈ C) with h | h
    ·exact h
    ·have:=h1 i hik h;rw [hnl] at this;cases this
   have hL:=lateFit_late hlate hC ho;obtain ⟨t,ht⟩:=hL.dst;have hrun:=hpu i o t hC ho hnl ht W;have htN:t<N:=quietFit.lt hfit ho ht;unfold wpOp;simp only [ho];rw [if_pos (by simp [Region.wanted,isSimple_guard (isPure_simple hL.pure_)])];left;unfold Oper.wp;rw [hrun,Oper.upon_value];refine ih _ _ W k T hnk hk (by rw [Array.size_setIfInBounds];exact hs) (closed_set hclo ho hdep) (fun j hj hjC=>listed_keep (h1 j hj hjC)) (fun j hj => ?_) (by rw [put_size];exact hsa) hsT (fun s hs' => ?_) (fun c p s hcC hp hcn hps X => ?_) hcnt (by rw [put_defers];exact h)
   ·rcases hcc:(listed.setIfInBounds i true).getD j false with _ | _
    ·rfl
    ·have:=(listed_set hcc).resolve_left (by omega);rw [h2 j hj] at this;cases this
   ·rw [put_get];by_cases hst:o.dst=some s
    ·rw [if_pos hst];rw [ht] at hst;cases hst;have h8:=Nat.lt_of_lt_of_eq htN hsa.symm;have h9:=Nat.lt_of_lt_of_eq htN hsT.symm;rw [if_pos h8,Array.getD_eq_getD_getElem?,Array.getElem?_eq_getElem h9];rfl
    ·rw [if_neg hst];refine hag s fun c p hcC hp hcn => ?_
     by_cases hci:c=i
     ·subst hci;rw [ho] at hp;cases hp;exact hst
     ·refine hs' c p hcC hp ?_;rcases hcc:(listed.setIfInBounds i true).getD c false with _ | _
      ·rfl
      ·have:=(listed_set hcc).resolve_left hci;rw [hcn] at this;cases this
   ·have hcn':listed.getD c false=false:=by
     rcases hcc:listed.getD c false with _ | _
     ·rfl
     ·rw [listed_keep hcc] at hcn;cases hcn
    have hLc:=lateFit_late hlate hcC hp;rw [← exec_congr (isPure_simple hLc.pure_) (eval_congr fun s' hs' => ?_),hpu c p s hcC hp hcn' hps X];rw [put_get,if_neg (clearOf_get hLc.own hs' hC ho)]
  ·-- the next store
   have hik':i=k:=by
    rcases Nat.eq_or_lt_of_le hik with h | h
    ·exact h.symm
    ·have hkC:k ∉ C:=fun hkC=>by
      have:=(lateFit_late hlate hkC (show ops[k]? = some (ops[k]'(by have:=(Array.getElem?_eq_some_iff.1 ho).1;omega)) by simp)).lt;omega
     have:=waitsT_listed hclo ops.size o k hdep ((lateFit_tail hlate (by omega) ho).wait k h hkC);rw [h2 k (Nat.le_refl _)] at this;cases this
   subst hik';have hT:=lateFit_tail hlate hnk ho;have hilt:i<ops.size:=(Array.getElem?_eq_some_iff.1 ho).1;obtain ⟨m,hm⟩:∃ m,ops.size - i=m+1:=⟨ops.size - i - 1,by omega⟩
   rw [hm,List.range'_succ,wpOps_cons] at h;have hex:execOp a.eval o=execOp (Act.eval ⟨T,a.defers⟩) o:=exec_congr hT.simple (eval_congr fun s hs'=>hag s fun c p hcC hp hcn=>by
    rcases hw:waits o c with _ | _
    ·exact clearOf_get hT.own hs' (List.mem_filter.2 ⟨hcC,by rw [hw];rfl⟩) hp
    ·obtain ⟨e,he,hek,hb⟩:=waits_get hw;have:=hdep e he hb;rw [hek,hcn] at this;cases this)
   unfold wpOp at h ⊢;simp only [ho] at h ⊢;rw [if_pos (by simp [Region.wanted,isSimple_guard hT.simple])] at h ⊢;left;have hwp:o.wp P ⟨T,a.defers⟩ W (wpOps P ops (normalQ Q) (List.range' (i+1) m)) (normalQ Q):=by
    rcases h with h | h
    ·exact h
    ·obtain ⟨x,y,hxy⟩:=h.2;exact (show False from hxy).elim
   unfold Oper.wp at hwp ⊢;rw [← hex] at hwp;have key:∀ v W',wpOps P ops (normalQ Q) (List.range' (i+1) m) ((⟨T,a.defers⟩:Act).put o.dst v) W'→wpAny P .any ops Q fuel (listed.setIfInBounds i true) (a.put o.dst v) W':=by
    intro v W' h';refine ih _ _ W' (i+1) ((⟨T,a.defers⟩:Act).put o.dst v).tmps (by omega) (by omega) (by rw [Array.size_setIfInBounds];exact hs) (closed_set hclo ho hdep) (fun j hj hjC => ?_) (fun j hj => ?_) (by rw [put_size];exact hsa) (by rw [put_size];exact hsT) (fun s hs' => ?_) (fun c p s hcC hp hcn hps X => ?_) hcnt ?_
    ·by_cases hji:j=i
     ·subst hji;exact listed_self hlt
     ·exact listed_keep (h1 j (by omega) hjC)
    ·rcases hcc:(listed.setIfInBounds i true).getD j false with _ | _
     ·rfl
     ·have:=(listed_set hcc).resolve_left (by omega);rw [h2 j (by omega)] at this;cases this
    ·rw [put_get,put_get];by_cases hst:o.dst=some s
     ·rw [if_pos hst,if_pos hst];simp only;rw [hsa,hsT]
     ·rw [if_neg hst,if_neg hst];refine hag s fun c p hcC hp hcn=>hs' c p hcC hp ?_
      rcases hcc:(listed.setIfInBounds i true).getD c false with _ | _
      ·rfl
      ·have hci:c≠i:=fun e=>by subst e;have:=(lateFit_late hlate hcC ho).lt;omega
       have:=(listed_set hcc).resolve_left hci;rw [hcn] at this;cases this
    ·have hcn':listed.getD c false=false:=by
      rcases hcc:listed.getD c false with _ | _
      ·rfl
      ·rw [listed_keep hcc] at hcn;cases hcn
     have hLc:=lateFit_late hlate hcC hp;have hci:c≠i:=fun e=>by subst e;have:=hLc.lt;omega
     rw [← exec_congr (isPure_simple hLc.pure_) (eval_congr fun s' hs' => ?_),hpu c p s hcC hp hcn' hps X]
     ·have hne:o.dst≠some s:=quietFit.own hfit hp ho hps (Ne.symm hci);rw [Array.getD_eq_getD_getElem?,Array.getD_eq_getD_getElem?,put_get,if_neg hne]
     ·rw [put_get,if_neg (clearOf_get hLc.tail hs' (by rw [List.mem_range'_1];omega) ho)]
    ·rw [put_defers,show ops.size - (i+1)=m by omega];have e2:(⟨((⟨T,a.defers⟩:Act).put o.dst v).tmps,a.defers⟩:Act)=(⟨T,a.defers⟩:Act).put o.dst v:=by unfold Act.put;split <;> rfl
     rw [e2];exact h'
   cases hr:(execOp a.eval o).run P W with
   | halt x W' =>
    rw [hr] at hwp
    cases x <;> exact hwp.elim
   | ok nx W' =>
    rw [hr] at hwp;rcases simple_run hT.simple hr with rfl | ⟨v,rfl⟩
    ·rw [Oper.upon_skip] at hwp ⊢;exact key _ _ hwp
    ·rw [Oper.upon_value] at hwp ⊢;exact key _ _ hwp
theorem wpAny_inv2 {P:Program} {ops:Array Oper} {Q:Exit→Act→World→Prop} {n N:Nat} {C:List Nat} {J:Array Bool→Act→World→Prop} (hn:n≤ops.size) (hwait:∀ i (o:Oper),n≤i→ops[i]? = some o→∀ j,j<i→j ∉ C→waitsT ops ops.size o j=true) (hls:∀ listed a W,J listed a W→listed.size=ops.size) (hcl:∀ listed a W,J listed a W→Closed ops listed)
  (hstep:∀ listed a W i (o:Oper),J listed a W→(∀ j,n≤j→listed.getD j false=false)→i<n→ops[i]? = some o→listed.getD i false=false→(∀ e ∈ o.after,Region.binds .any e=true→listed.getD e.on false=true)→wpOp P ops Q i (J (listed.setIfInBounds i true)) a W)
  (hdone:∀ fuel listed a W,J listed a W→(∀ j,n≤j→listed.getD j false=false)→(∀ j,j<n→j ∉ C→listed.getD j false=true)→listed.toList.count false≤fuel→wpAny P .any ops Q fuel listed a W) (hfit:quietFit ops N=true) :
  ∀ (fuel:Nat) (listed:Array Bool) (a:Act) (W:World),J listed a W→(∀ i,n≤i→listed.getD i false=false)→(listed.toList.count false≤fuel)→wpAny P .any ops Q fuel listed a W:=by
 intro fuel
 induction fuel with
 | zero =>
  intro listed a W hJ h2 hc;refine hdone 0 listed a W hJ h2 (fun i hi _ => ?_) hc;rcases hcc:listed.getD i false with _ | _
  ·exfalso;have hlt:i<listed.size:=by rw [hls _ _ _ hJ];omega
   rw [Array.getD_eq_getD_getElem?,Array.getElem?_eq_getElem hlt] at hcc;have:false ∈ listed.toList:=by
    have h3:listed[i]=false:=hcc;rw [← h3];simp
   have:=List.count_pos_iff.2 this;omega
  ·rfl
 | succ fuel ih =>
  intro listed a W hJ h2 hc;by_cases h1:∀ i,i<n→i ∉ C→listed.getD i false=true
  ·exact hdone _ listed a W hJ h2 h1 hc
  ·have key:∀ i ∈ Region.ready .any ops listed,i<n:=by
    intro i hi;rcases Nat.lt_or_ge i n with h | h
    ·exact h
    ·exfalso;refine h1 fun j hj hjC => ?_
     obtain ⟨_,o,ho,hdep⟩:=mem_ready.1 hi;exact waitsT_listed (hcl _ _ _ hJ) ops.size o j hdep (hwait i o h ho j (by omega) hjC)
   refine ⟨fun hr => ?_,fun i hi => ?_⟩
   ·exfalso;refine h1 fun i hi hiC => ?_
    clear hiC
    induction i using Nat.strongRecOn with
    | _ i ih2 =>
     rcases hcc:listed.getD i false with _ | _
     ·exfalso;have hm:i ∈ Region.ready .any ops listed:=by
       refine mem_ready.2 ⟨?_,ops[i]'(by omega),by simp [show i<ops.size by omega],fun e he hb => ?_⟩
       ·rw [Array.getD_eq_getD_getElem?] at hcc ⊢;have:i<listed.size:=by rw [hls _ _ _ hJ];omega
        rw [Array.getElem?_eq_getElem this] at hcc ⊢;exact hcc
       ·have h3:=quietFit.edge hfit (i:=i) (o:=ops[i]'(by omega)) (by simp [show i<ops.size by omega]) he hb;exact ih2 e.on h3 (by omega)
      rw [hr] at hm;cases hm
     ·rfl
   ·have hin:=key i hi;have hnl:=ready_listed hi (hls _ _ _ hJ);obtain ⟨h4,o,ho,hdep⟩:=mem_ready.1 hi;refine wpOp_mono (fun a' W' hJ'=>ih _ a' W' hJ' (fun j hj => ?_) ?_) (hstep listed a W i o hJ h2 hin ho hnl hdep)
    ·have:=h2 j hj;rw [Array.getD_eq_getD_getElem?] at this ⊢;rw [Array.getElem?_setIfInBounds_ne (by omega)];exact this
    ·have hlt:i<listed.size:=by rw [hls _ _ _ hJ];exact (Array.getElem?_eq_some_iff.1 ho).1
     rw [Array.getD_eq_getD_getElem?,Array.getElem?_eq_getElem hlt] at h4;have h5:listed.toList[i]'(by simpa using hlt)=false:=by simpa using h4
     rw [Array.toList_setIfInBounds];have h6:=List.count_set (l:=listed.toList) (a:=true) (b:=false) (i:=i) (by simpa using hlt);have h7:0<listed.toList.count false:=List.count_pos_iff.2 (by rw [← h5];exact List.getElem_mem _);rw [h6,h5];show List.count false listed.toList - 1+0≤fuel;omega
theorem exists_fill {ops:Array Oper} {N:Nat} (hfit:quietFit ops N=true) {f:Nat→Bool} {V:Nat→Value} {A:Array Value} (hA:A.size=N):∀ D:List Nat,∃ T:Array Value,T.size=N∧(∀ t,(∀ c (o:Oper),c ∈ D→ops[c]? = some o→f c=false→o.dst≠some t)→T[t]? = A[t]?)∧∀ c (o:Oper) t,c ∈ D→ops[c]? = some o→f c=false→o.dst=some t→T.getD t undef=V c
 | []=>⟨A,hA,fun _ _=>rfl,fun c _ _ h=>by cases h⟩
 | d :: D=>by
  obtain ⟨T,hT,h1,h2⟩:=exists_fill hfit (f:=f) (V:=V) hA D
  cases hf:f d with
  | true =>
   refine ⟨T,hT,fun t ht=>h1 t fun c o hc ho hn=>ht c o (List.mem_cons_of_mem _ hc) ho hn,fun c o t hc ho hn hd => ?_⟩;rcases List.mem_cons.1 hc with rfl | hc
   ·rw [hf] at hn;cases hn
   ·exact h2 c o t hc ho hn hd
  | false =>
   cases hop:ops[d]? with
   | none =>
    refine ⟨T,hT,fun t ht=>h1 t fun c o hc ho hn=>ht c o (List.mem_cons_of_mem _ hc) ho hn,fun c o t hc ho hn hd => ?_⟩;rcases List.mem_cons.1 hc with rfl | hc
    ·rw [hop] at ho;cases ho
    ·exact h2 c o t hc ho hn hd
   | some p =>
    cases hpd:p.dst with
    | none =>
     refine ⟨T,hT,fun t ht=>h1 t fun c o hc ho hn=>ht c o (List.mem_cons_of_mem _ hc) ho hn,fun c o t hc ho hn hd => ?_⟩;rcases List.mem_cons.1 hc with rfl | hc
     ·rw [hop] at ho;cases ho;rw [hpd] at hd;cases hd
     ·exact h2 c o t hc ho hn hd
    | some s =>
     have hs:s<N:=quietFit.lt hfit hop hpd;refine ⟨T.setIfInBounds s (V d),by simpa using hT,fun t ht => ?_,fun c o t hc ho hn hd => ?_⟩
     ·have:s≠t:=fun e=>ht d p List.mem_cons_self hop hf (by rw [hpd,e])
      rw [Array.getElem?_setIfInBounds_ne this];exact h1 t fun c o hc ho hn=>ht c o (List.mem_cons_of_mem _ hc) ho hn
     ·by_cases hcd:c=d
      ·subst hcd;rw [hop] at ho;cases ho;rw [hpd] at hd;cases hd;rw [Array.getD_eq_getD_getElem?,Array.getElem?_setIfInBounds_self,if_pos (Nat.lt_of_lt_of_eq hs hT.symm)];rfl
      ·have hne:s≠t:=fun e=>quietFit.own hfit hop ho hpd hcd (by rw [hd,e])
       rw [Array.getD_eq_getD_getElem?,Array.getElem?_setIfInBounds_ne hne,← Array.getD_eq_getD_getElem?];exact h2 c o t ((List.mem_cons.1 hc).resolve_left hcd) ho hn hd
def valAt (items:List QItem) (c:Nat):Value:=match items[c]? with | some (.val v)=>v | _=>undef
def isVal (items:List QItem) (c:Nat):Bool:=match items[c]? with | some (.val _)=>true | _=>false
theorem isVal_sp {items:List QItem} {c:Nat} (h:isVal items c=true) {v:Value} {W:World}:itemSp items c v W ↔ v=valAt items c:=by
 unfold isVal at h;unfold itemSp valAt
 cases hi:items[c]? with
 | none=>rw [hi] at h;cases h
 | some q =>
  cases q with
  | val u=>exact Iff.rfl
  | say S=>rw [hi] at h;cases h
theorem wp_region_late {P:Program} {ops:Array Oper} {Q:Exit→Act→World→Prop} {id:Nat} {tmps:Array Value} {ds:List Deferred} {w:World} (n:Nat) (C:List Nat) (items:List QItem) (L:List Nat) (hm:P.follows .mixedOrders=true)
  (htail:(lateFit ops n C && quietFit ops tmps.size && decide (n≤ops.size) && decide ((ops.toList.take n).length=items.length))=true) (hC:(C.all (isVal items))=true) (hL:newDsts (ops.toList.take n)=L) (hmono:itemsMono items) (hall:allItems P ops (ops.toList.take n) items tmps w (ops.toList.take n) items)
  (hdone:∀ W,Below w.heap.size w W→setItems W (fun T=>Apart L T→wpList P ops (normalQ Q) (ops.toList.drop n) ⟨T,ds⟩ W) (ops.toList.take n) items tmps):(Code.region id ops true).wp P Q ⟨tmps,ds⟩ w:=by
 simp only [Bool.and_eq_true,decide_eq_true_eq] at htail;obtain ⟨⟨⟨h1,hfit⟩,hn⟩,hlen⟩:=htail;rw [List.all_eq_true] at hC;have e:∀ a W,wpOps P ops (normalQ Q) (List.range' n (ops.size - n)) a W=wpList P ops (normalQ Q) (ops.toList.drop n) a W:=fun a W=>by
  have h:=wpOps_eq_wpList (P:=P) (ops:=ops) (Q:=normalQ Q) (ops.toList.drop n) n (fun j=>by rw [List.getElem?_drop];simp);rw [List.length_drop,Array.length_toList] at h;rw [h]
 have hallq:allQuiet P ops (ops.toList.take n) (itemSp items) tmps w 0 (ops.toList.take n):=allItems.quiet _ _ 0 hall (fun i=>by simp);have hq:∀ i (o:Oper),i<n→ops[i]? = some o→quietOb P ops (ops.toList.take n) (itemSp items) tmps w i o:=fun i o hi ho=>by
  have:=allQuiet.get (ops.toList.take n) 0 hallq i o (by rw [List.getElem?_take,if_pos hi];simpa using ho)
  rwa [Nat.zero_add] at this
 have hin:∀ (listed:Array Bool),(∀ j,n≤j→listed.getD j false=false)→∀ j (p:Oper),ops[j]? = some p→listed.getD j false=true→p ∈ ops.toList.take n:=by
  intro listed h2 j p hp hl;have hjn:j<n:=by
   rcases Nat.lt_or_ge j n with h | h
   ·exact h
   ·rw [h2 j h] at hl;cases hl
  refine List.mem_of_getElem? (i:=j) ?_;rw [List.getElem?_take,if_pos hjn];simpa using hp
 refine wp_region_any hm (wpAny_inv2 (J:=fun listed a W=>QuietAt ops (itemSp items) tmps ds w listed a W∧ApartAt ops listed a W∧Closed ops listed) (C:=C) hn (fun i o hi ho=>(lateFit_tail h1 hi ho).wait) (fun listed a W h=>h.1.lsize) (fun listed a W h=>h.2.2) ?_ ?_ hfit ops.size _ _ _ ⟨⟨Below.drew (Below.refl _ _),rfl,rfl,by simp,?_,fun _ _=>rfl⟩,⟨?_,?_⟩,?_⟩ (fun i _ => ?_) ?_)
 ·intro listed a W i o hJ h2 hi ho hni hdep;exact wpOp_mono (fun a' W' h=>⟨h.1,h.2,closed_set hJ.2.2 ho hdep⟩) (quietAt_step2 hmono.get hfit (hq i o hi ho) (hin listed h2) ho hJ.1 hJ.2.1 hni hdep)
 ·intro fuel listed a W hJ h2 h3 hc;obtain ⟨T,hT,hfill,hval⟩:=exists_fill hfit (f:=fun c=>listed.getD c false) (V:=valAt items) hJ.1.size C;refine wpAny_late hfit h1 fuel listed a W n T (Nat.le_refl _) hn hJ.1.lsize hJ.2.2 h3 h2 hJ.1.size hT (fun t ht=>(hfill t ht).symm) (fun c o t hcC ho hcn hd X => ?_) hc ?_
  ·have hLc:=lateFit_late h1 hcC ho;have hob:=hq c o hLc.lt ho a.eval W hJ.1.below (fun _=>rfl) (fun _=>rfl) (fun _=>rfl)
    (fun t ht=>by rw [eval_tmp,Array.getD_eq_getD_getElem?,Array.getD_eq_getD_getElem?,hJ.1.same t (fun j p hp hl=>foreign_mem ht (hin listed h2 j p hp hl))])
    (depsSay_of _ fun e he hb p t hp ht=>hJ.1.done e.on p t hp ht (by
     have he':e ∈ o.after:=by simpa using he
     refine h3 e.on ?_ ?_
     ·exact Nat.lt_trans (quietFit.edge hfit ho he' hb) hLc.lt
     ·intro hC';have:=hLc.free _ hC';have h9:waits o e.on=true:=Array.any_eq_true'.2 ⟨e,he',by simp [hb]⟩;rw [h9] at this;cases this))
   rw [if_pos (by simp [Region.wanted,isSimple_guard (isPure_simple hLc.pure_)])] at hob
   cases hr:(execOp a.eval o).run P W with
   | halt x W'=>rw [hr] at hob;exact hob.elim
   | ok nx W' =>
    obtain ⟨v,rfl,hX⟩:=pure_run hLc.pure_ hr;rw [hr] at hob;have hv:=(isVal_sp (hC c hcC)).1 hob.1;rw [hX X,hval c o t hcC ho hcn hd,hv]
  ·rw [e,hJ.1.defers];have hqd:=setItems_done (items:=items) (K:=fun T W=>Apart L T→wpList P ops (normalQ Q) (ops.toList.drop n) ⟨T,ds⟩ W) (ops.toList.take n) items 0 tmps hlen (fun i=>by simp) (hdone W hJ.1.below);have hsame:∀ i (o:Oper) t,i<n→ops[i]? = some o→o.dst=some t→listed.getD i false=true→T[t]? = a.tmps[t]? := fun i o t hi ho ht hl=>hfill t fun c p hcC hp hcn=>by
    have hci:c≠i:=fun e=>by subst e;rw [hl] at hcn;cases hcn
    exact quietFit.own hfit ho hp ht hci
   have h4:=quietDone_use T (ops.toList.take n) 0 tmps hqd (by rw [hT]) (fun i o t ho ht=>by
    rw [Nat.zero_add];rw [List.getElem?_take] at ho;split at ho
    ·rename_i hi;have ho':ops[i]? = some o:=by simpa using ho
     rcases hl:listed.getD i false with _ | _
     ·have hiC:i ∈ C:=by
       rcases Decidable.em (i ∈ C) with h | h
       ·exact h
       ·have:=h3 i hi h;rw [hl] at this;cases this
      exact (isVal_sp (hC i hiC)).2 (hval i o t hiC ho' hl ht)
     ·have:=hJ.1.done i o t ho' ht hl;rw [Array.getD_eq_getD_getElem?,hsame i o t hi ho' ht hl,← Array.getD_eq_getD_getElem?];exact this
    ·cases ho) (fun t ht=>by
     have h5:=hJ.1.same t (fun j p hp hl=>foreign_mem ht (hin listed h2 j p hp hl));rw [← h5];refine hfill t fun c p hcC hp hcn => ?_
     have hLc:=lateFit_late h1 hcC hp;refine foreign_mem ht (List.mem_of_getElem? (i:=c) ?_);rw [List.getElem?_take,if_pos hLc.lt];simpa using hp)
   refine h4 ?_;rw [← hL];refine apart_of fun i j o p t s ho hp hno hnp ht hs hne => ?_
   rw [List.getElem?_take] at ho hp;split at ho
   ·rename_i hi;split at hp
    ·rename_i hj;have ho':ops[i]? = some o:=by simpa using ho
     have hp':ops[j]? = some p:=by simpa using hp
     have nl:∀ c (q:Oper),ops[c]? = some q→isNew q=true→c<n→listed.getD c false=true:=fun c q hq' hnq hc'=>by
      refine h3 c hc' fun hcC => ?_
      have hLc:=(lateFit_late h1 hcC hq').pure_;unfold isNew at hnq;unfold isPure at hLc;rw [Bool.and_eq_true] at hnq hLc;have a1:=hnq.1;have a2:=hLc.1
      cases hqo:q.op <;> simp [hqo] at a1 a2
     have li:=nl i o ho' hno hi;have lj:=nl j p hp' hnp hj;rw [Array.getD_eq_getD_getElem?,Array.getD_eq_getD_getElem?,hsame i o t hi ho' ht li,hsame j p s hj hp' hs lj,← Array.getD_eq_getD_getElem?,← Array.getD_eq_getD_getElem?];exact hJ.2.1.apart i j o p t s ho' hp' hno hnp ht hs hne li lj
    ·cases hp
   ·cases ho
 ·intro i o t _ _ h;rw [Array.getD_eq_getD_getElem?] at h;by_cases hi:i<ops.size <;> simp [hi] at h
 ·intro i o t _ _ _ h;rw [Array.getD_eq_getD_getElem?] at h;by_cases hi:i<ops.size <;> simp [hi] at h
 ·intro i j o p t s _ _ _ _ _ _ _ h;rw [Array.getD_eq_getD_getElem?] at h;by_cases hi:i<ops.size <;> simp [hi] at h
 ·intro i o _ h;rw [Array.getD_eq_getD_getElem?] at h;by_cases hi:i<ops.size <;> simp [hi] at h
 ·rw [Array.getD_eq_getD_getElem?];by_cases hi:i<ops.size <;> simp [hi]
 ·simp
end Go.Proofs.YtdikaoahgleffaaGreatDoor
