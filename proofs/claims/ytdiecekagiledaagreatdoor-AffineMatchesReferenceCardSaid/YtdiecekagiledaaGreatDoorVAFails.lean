/- Package affine: isBetween, what is wrong with a term, Valid, whatever the. -/
import Derived.Test.YtdiecekagiledaaGreatDoorVAValid
set_option linter.unusedSimpArgs false
set_option linter.unusedVariables false
set_option maxRecDepth 100000
set_option maxHeartbeats 16000000
namespace Go.Proofs.YtdiecekagiledaaGreatDoor
open Go Go.RowKit Go.Lib Go.Shelf Go.Proofs.Tryz
def RK(a b:ByteArray)(o:Option Rat):Prop:=match o with
 | some q=>a=S q.num/\b=S (q.den:Int)/\QDig 200 q
 | none=>∀ W,Env W->Calls prog 36 #[.agg #[.string a,.string b]] W (qa false W)
theorem RK.of{q:Rat}(h:QDig 200 q):RK (S q.num) (S (q.den:Int)) (some q):=⟨rfl,rfl,h⟩
theorem RK.zero:RK ⟨#[]⟩ ⟨#[]⟩ none:=fun W _=>ybl W
theorem RK.valid{a b:ByteArray}{o:Option Rat}(h:RK a b o)(w:World)(he:Env w):Calls prog 36 #[.agg #[.string a,.string b]] w (qa o.isSome w):=by
 cases o with
 | none=>exact h w he
 | some q =>
  obtain⟨rfl,rfl,hq⟩:=h;exact qK q hq w he
def zaR(lo hi:Rat):Option Rat->Bool
 | none=>false
 | some q=>decide (lo<=q)&&decide (q<=hi)
theorem kaf:Rat.divInt 1 1=1:=by decide +kernel
theorem zbc:Rat.divInt (-1) 1 = -1:=by decide +kernel
theorem jcJ:QDig 200 1:=⟨by unfold Dig;decide,by unfold Dig;decide⟩
theorem vc3:QDig 200 (-1):=⟨by unfold Dig;decide,by unfold Dig;decide⟩
theorem zbN{a b:ByteArray}{lo hi:Int}(h:RK a b none)(w:World)(he:Env w):Calls prog 56 #[.agg #[.string a,.string b],.int .i64 lo,.int .i64 hi] w (qa false w):=by
 have hB:=Ab w;have FN:=ja5;have MV:=fun W (H:Env W)=>(h:∀ W,Env W->_) W H
 unfold qa at MV;clear h;unfold qa;go_enter func56,ntmps56;go_wp2_with fail;have sB:=hB.size;refine zi (fun X=>Aa w X/\Row X w.heap.size (.cells #[.string a,.string b] 23)) ⟨BW,RWh⟩ ?_;clear hB sB;rintro V1⟨hB,rr⟩;have sr:=RF2 rr;refine jc [.agg #[.string a,.string b],.bool false,.bool false,undef,undef,undef,undef,undef,undef,.bool false,.bool false,undef,undef,undef,undef,undef,undef,.bool false,.bool false] kr9 kr9 rfl (vC9 (qv1 fun X h=>RF2 (Ae rr h)) (vC9 (qv2 fun X h=>MV X (he.below (Em hB h))) (vC9 qv0 (vC9 qv0 (vC9 qv0 (vC9 qv0 (vC9 qv0 (vC9 qv0 (vC9 qv0 (vC9 qv0 (vC9 qv0 (vC9 qv0 (vC9 qv0 (vC9 qv0 (vC9 qv0 (vC9 qv0 (vC9 qv0 (vC9 qv0 (vC9 qv0 trivial))))))))))))))))))) ?_;rintro W h1;have stp:=St1 hB h1 rr;clear hB h1 rr sr;obtain⟨hB,rr⟩:=stp;have sr:=RF2 rr;simp only[ve,Ah,Ak,Al];go_wp2;go_ret;exact⟨rfl,hB⟩
theorem vca{lo hi:Int}{ql qh:Rat}(hlo:jo lo)(hhi:jo hi)(eql:Rat.divInt lo 1=ql)(eqh:Rat.divInt hi 1=qh)(dl:QDig 200 ql)(dh:QDig 200 qh){q:Rat}(hq:QDig 200 q)(h:¬ ql<=q)(w:World)(he:Env w):Calls prog 56 #[Q q,.int .i64 lo,.int .i64 hi] w (qa false w):=by
 have hB:=Ab w;have FN:=ja5;have ML:=fun W (H:Env W)=>qA hlo eql W H
 have MH:=fun W (H:Env W)=>qA hhi eqh W H
 have M1:=fun W (H:Env W)=>kP q ql hq dl W H
 have M2:=fun W (H:Env W)=>kP q qh hq dh W H
 have MV:=fun W (H:Env W)=>qK q hq W H
 unfold QIs at ML MH;unfold jB at M1 M2;unfold qa at MV;unfold Q at *;generalize hc1:zE q ql=c1 at *;generalize hc2:zE q qh=c2 at *;have c1d:decide (0<=c1)=false:=decide_eq_false (fun e=>h (qE.1 (hc1 ▸ e)));clear hc1 hc2 h eql eqh dl dh hq M2 MH;unfold qa;go_enter func56,ntmps56;go_wp2_with fail;have sB:=hB.size;refine zi (fun X=>Aa w X/\Row X w.heap.size (oR q)) ⟨BW,RWh⟩ ?_;clear hB sB;rintro V1⟨hB,rr⟩;have sr:=RF2 rr;refine jc [Ac q,.bool true,.bool true,Ac q,.int .i64 lo,Ac ql,Ac ql,.int .i64 c1,.bool false,.bool false,.bool false,undef,undef,undef,undef,undef,undef,.bool false,.bool false] kr9 kr9 rfl (vC9 (qv1 fun X h=>RF2 (Ae rr h)) (vC9 (qv2 fun X h=>MV X (he.below (Em hB h))) (vC9 qv0 (vC9 (qv1 fun X h=>RF2 (Ae rr h)) (vC9 qv0 (vC9 (qv2 fun X h=>ML X (he.below (Em hB h))) (vC9 (qvf FN) (vC9 (qv2 fun X h=>M1 X (he.below (Em hB h))) (vC9 (qvf c1d) (vC9 qv0 (vC9 qv0 (vC9 qv0 (vC9 qv0 (vC9 qv0 (vC9 qv0 (vC9 qv0 (vC9 qv0 (vC9 qv0 (vC9 qv0 trivial))))))))))))))))))) ?_
 rintro W h1;have stp:=St1 hB h1 rr;clear hB h1 rr sr;obtain⟨hB,rr⟩:=stp;have sr:=RF2 rr;simp only[ve,Ah,Ak,Al];go_wp2;go_ret;exact⟨rfl,hB⟩
theorem zcx{lo hi:Int}{ql qh:Rat}(hlo:jo lo)(hhi:jo hi)(eql:Rat.divInt lo 1=ql)(eqh:Rat.divInt hi 1=qh)(dl:QDig 200 ql)(dh:QDig 200 qh){q:Rat}(hq:QDig 200 q)(h:ql<=q)(w:World)(he:Env w):Calls prog 56 #[Q q,.int .i64 lo,.int .i64 hi] w (qa (decide (q<=qh)) w):=by
 have hB:=Ab w;have FN:=ja5;have ML:=fun W (H:Env W)=>qA hlo eql W H
 have MH:=fun W (H:Env W)=>qA hhi eqh W H
 have M1:=fun W (H:Env W)=>kP q ql hq dl W H
 have M2:=fun W (H:Env W)=>kP q qh hq dh W H
 have MV:=fun W (H:Env W)=>qK q hq W H
 unfold QIs at ML MH;unfold jB at M1 M2;unfold qa at MV;unfold Q at *;generalize hc1:zE q ql=c1 at *;generalize hc2:zE q qh=c2 at *;have c1d:decide (0<=c1)=true:=decide_eq_true (hc1 ▸ qE.2 h);have c2e:decide (q<=qh)=decide (c2<=0):=by rw[<- hc2];exact decide_eq_decide.2 cmpQ_le.symm
 rw[c2e];generalize hbb:decide (c2<=0)=bb;have c2d:=hbb;clear hc1 hc2 h eql eqh dl dh hq c2e hbb;unfold qa;go_enter func56,ntmps56;go_wp2_with fail;have sB:=hB.size;refine zi (fun X=>Aa w X/\Row X w.heap.size (oR q)) ⟨BW,RWh⟩ ?_;clear hB sB;rintro V1⟨hB,rr⟩;have sr:=RF2 rr;refine jc [Ac q,.bool true,.bool true,Ac q,.int .i64 lo,Ac ql,Ac ql,.int .i64 c1,.bool true,.bool true,.bool true,Ac q,.int .i64 hi,Ac qh,Ac qh,.int .i64 c2,.bool bb,.bool bb,.bool bb] kr9 kr9 rfl (vC9 (qv1 fun X h=>RF2 (Ae rr h)) (vC9 (qv2 fun X h=>MV X (he.below (Em hB h))) (vC9 qv0 (vC9 (qv1 fun X h=>RF2 (Ae rr h)) (vC9 qv0 (vC9 (qv2 fun X h=>ML X (he.below (Em hB h))) (vC9 (qvf FN) (vC9 (qv2 fun X h=>M1 X (he.below (Em hB h))) (vC9 (qvf c1d) (vC9 qv0 (vC9 qv0 (vC9 (qv1 fun X h=>RF2 (Ae rr h)) (vC9 qv0 (vC9 (qv2 fun X h=>MH X (he.below (Em hB h))) (vC9 (qvf FN) (vC9 (qv2 fun X h=>M2 X (he.below (Em hB h))) (vC9 (qvf c2d) (vC9 qv0 (vC9 qv0 trivial))))))))))))))))))) ?_
 rintro W h1;have stp:=St1 hB h1 rr;clear hB h1 rr sr;obtain⟨hB,rr⟩:=stp;have sr:=RF2 rr;simp only[ve,Ah,Ak,Al];go_wp2;go_ret;exact⟨rfl,hB⟩
theorem zc9{lo hi:Int}{ql qh:Rat}(hlo:jo lo)(hhi:jo hi)(eql:Rat.divInt lo 1=ql)(eqh:Rat.divInt hi 1=qh)(dl:QDig 200 ql)(dh:QDig 200 qh){a b:ByteArray}{o:Option Rat}(h:RK a b o)(w:World)(he:Env w) :
  Calls prog 56 #[.agg #[.string a,.string b],.int .i64 lo,.int .i64 hi] w (qa (zaR ql qh o) w):=by
 cases o with
 | none=>exact zbN h w he
 | some q =>
  obtain⟨rfl,rfl,hq⟩:=h;show Calls prog 56 _ w (qa (decide (ql<=q)&&decide (q<=qh)) w);by_cases hl:ql<=q
  ·rw[decide_eq_true hl,Bool.true_and];exact zcx hlo hhi eql eqh dl dh hq hl w he
  ·rw[decide_eq_false hl,Bool.false_and];exact vca hlo hhi eql eqh dl dh hq hl w he
theorem jct(x:RT){o:Option Rat}(h:RK x.a x.b o)(w:World)(he:Env w):Calls prog 55 #[uV x] w (qa (!zaR (-1) 1 o) w):=by
 have hB:=Ab w;have MB:=fun W (H:Env W)=>zc9 (lo:=(-1)) (hi:=1) dd dd zbc kaf vc3 jcJ h W H
 generalize zaR (-1) 1 o=v at *;unfold qa uV at *;clear h;go_enter func55,ntmps55;go_wp2_with fail;have sB:=hB.size;refine za (fun X=>Aa w X) BW ?_;clear hB sB;rintro V1 hB;refine(MB _ (he.below hB)).mono ?_;rintro e W2⟨rfl,h1⟩;have stp:=St0 hB h1;clear hB h1;have hB:=stp;clear stp;go_wp2;go_ret;exact⟨rfl,hB⟩
theorem qdc(x:RT){o:Option Rat}(h:RK x.a x.b o)(w:World)(he:Env w):Calls prog 76 #[uV x] w (qa (!zaR (0) 1 o) w):=by
 have hB:=Ab w;have MB:=fun W (H:Env W)=>zc9 (lo:=0) (hi:=1) dd dd zG kaf kaZ jcJ h W H
 generalize zaR (0) 1 o=v at *;unfold qa uV at *;clear h;go_enter func76,ntmps76;go_wp2_with fail;have sB:=hB.size;refine za (fun X=>Aa w X) BW ?_;clear hB sB;rintro V1 hB;refine(MB _ (he.below hB)).mono ?_;rintro e W2⟨rfl,h1⟩;have stp:=St0 hB h1;clear hB h1;have hB:=stp;clear stp;go_wp2;go_ret;exact⟨rfl,hB⟩
def zap:Option Rat->Bool
 | none=>true
 | some q=>decide (q=0)
theorem vbd(x:RT)(h:RK x.a x.b none)(w:World)(he:Env w):Calls prog 44 #[uV x] w (qa true w):=by
 have hB:=Ab w;have MB:=fun W (H:Env W)=>(h:∀ W,Env W->_) W H
 unfold qa uV at *;clear h;go_enter func44,ntmps44;go_wp2_with fail;have sB:=hB.size;refine za (fun X=>Aa w X/\Row X w.heap.size (.cells #[.int .i64 x.s,.string x.a,.string x.b] 34)) ⟨BW,RWh⟩ ?_;clear hB sB;rintro V1⟨hB,rx⟩;have sx:=RF3 rx;refine(MB _ (he.below hB)).mono ?_;rintro e W2⟨rfl,h1⟩;have stp:=St1 hB h1 rx;clear hB h1 rx sx;obtain⟨hB,rx⟩:=stp;have sx:=RF3 rx;go_wp2;go_ret;exact⟨rfl,hB⟩
theorem zbe(s:Int){q:Rat}(h:QDig 200 q)(w:World)(he:Env w):Calls prog 44 #[.agg #[.int .i64 s,.string (S q.num),.string (S (q.den:Int))]] w (qa (decide (q=0)) w):=by
 have hB:=Ab w;have MB:=fun W (H:Env W)=>qK q h W H
 have MZ:=fun W (H:Env W)=>zc6 q W H
 generalize decide (q=0)=v at *;unfold qa Q at *;clear h;go_enter func44,ntmps44;go_wp2_with fail;have sB:=hB.size;refine za (fun X=>Aa w X/\Row X w.heap.size (oT s q)) ⟨BW,RWh⟩ ?_;clear hB sB;rintro V1⟨hB,rx⟩;have sx:=RF3 rx;refine(MB _ (he.below hB)).mono ?_;rintro e W2⟨rfl,h1⟩;have stp:=St1 hB h1 rx;clear hB h1 rx sx;obtain⟨hB,rx⟩:=stp;have sx:=RF3 rx;go_wp2_with fail;clear rx sx;refine(MZ _ (he.below hB)).mono ?_;rintro e W3⟨rfl,h1⟩;have stp:=St0 hB h1;clear hB h1;have hB:=stp;clear stp;go_wp2;go_ret;exact⟨rfl,hB⟩
theorem kcO(x:RT){o:Option Rat}(h:RK x.a x.b o)(w:World)(he:Env w):Calls prog 44 #[uV x] w (qa (zap o) w):=by
 cases o with
 | none=>exact vbd x h w he
 | some q =>
  obtain⟨ha,hb,hq⟩:=h;unfold uV;rw[ha,hb];exact zbe x.s hq w he
def vfB(oc orr:Option Rat)(ot:Nat->Option Rat)(l:List RT)(n:Nat):Bool :=
 oc.isSome&&(orr.isSome&&((match orr with|some q=>decide (0<=q)|none=>false)&&(decide (n<=64)&&(decide (qbd l) && !decide (∃ i,i<n/\zap (ot i)=true)))))
theorem vcc{c1 c2 r1 r2:ByteArray}{l:List RT}{oc:Option Rat}(hc:RK c1 c2 oc)(p:En)(n c:Nat)(hn:l.length=n)(h1:oc.isSome=false)  (w:World) (hp:UAt 34 w p l) (he:Env w):Calls prog 17 #[.agg #[.string c1,.string c2,.slice p n c,.string r1,.string r2]] w (qa false w):=by
 have hB:=Ab w;have HP:=hid hp;clear hp;have MC:=fun W (H:Env W)=>hc.valid W H
 rw[h1]at MC;unfold qa at *;clear hc h1;go_enter func17,ntmps17;go_wp2_with fail;have sB:=hB.size;refine za (fun X=>Aa w X/\Row X w.heap.size (.cells #[.string c1,.string c2,.slice p n c,.string r1,.string r2] 26)) ⟨BW,RWh⟩ ?_;clear hB sB;rintro V1⟨hB,rf⟩;have sf:=RF5 rf;refine(MC _ (he.below hB)).mono ?_;rintro e W2⟨rfl,h1⟩;have stp:=St1 hB h1 rf;clear hB h1 rf sf;obtain⟨hB,rf⟩:=stp;have sf:=RF5 rf;go_wp2;go_ret;exact⟨rfl,hB⟩
theorem zcd{c1 c2 r1 r2:ByteArray}{l:List RT}{oc:Option Rat}(hc:RK c1 c2 oc){orr:Option Rat}(hr:RK r1 r2 orr)(p:En)(n c:Nat)(hn:l.length=n)(h1:oc.isSome=true)(h2:orr.isSome=false)  (w:World) (hp:UAt 34 w p l) (he:Env w):Calls prog 17 #[.agg #[.string c1,.string c2,.slice p n c,.string r1,.string r2]] w (qa false w):=by
 have hB:=Ab w;have HP:=hid hp;clear hp;have MC:=fun W (H:Env W)=>hc.valid W H
 rw[h1]at MC;have MR:=fun W (H:Env W)=>hr.valid W H
 rw[h2]at MR;unfold qa at *;clear hc h1 hr h2;go_enter func17,ntmps17;go_wp2_with fail;have sB:=hB.size;refine za (fun X=>Aa w X/\Row X w.heap.size (.cells #[.string c1,.string c2,.slice p n c,.string r1,.string r2] 26)) ⟨BW,RWh⟩ ?_;clear hB sB;rintro V1⟨hB,rf⟩;have sf:=RF5 rf;refine(MC _ (he.below hB)).mono ?_;rintro e W2⟨rfl,h1⟩;have stp:=St1 hB h1 rf;clear hB h1 rf sf;obtain⟨hB,rf⟩:=stp;have sf:=RF5 rf;go_wp2_with fail;refine(MR _ (he.below hB)).mono ?_;rintro e W3⟨rfl,h1⟩;have stp:=St1 hB h1 rf;clear hB h1 rf sf;obtain⟨hB,rf⟩:=stp;have sf:=RF5 rf;go_wp2;go_ret;exact⟨rfl,hB⟩
theorem qcd{c1 c2:ByteArray}{l:List RT}{oc:Option Rat}(hc:RK c1 c2 oc){q:Rat}(hq:QDig 200 q)(p:En)(n c:Nat)(hn:l.length=n)(h1:oc.isSome=true)(h3:¬ 0<=q)  (w:World) (hp:UAt 34 w p l) (he:Env w):Calls prog 17 #[.agg #[.string c1,.string c2,.slice p n c,.string (S q.num),.string (S (q.den:Int))]] w (qa false w):=by
 have hB:=Ab w;have HP:=hid hp;clear hp;have MC:=fun W (H:Env W)=>hc.valid W H
 rw[h1]at MC;have MR:=fun W (H:Env W)=>qK q hq W H
 have MG:=fun W (H:Env W)=>zaG hq W H
 have h3d:decide (0<=zE q 0)=false:=decide_eq_false (fun e=>h3 (qE.1 e));unfold jB at MG;generalize zE q 0=g at *;unfold qa at *;unfold Q at *;clear hc h1 hq h3;go_enter func17,ntmps17;go_wp2_with fail;have sB:=hB.size;refine za (fun X=>Aa w X/\Row X w.heap.size (.cells #[.string c1,.string c2,.slice p n c,.string (S q.num),.string (S (q.den:Int))] 26)) ⟨BW,RWh⟩ ?_;clear hB sB;rintro V1⟨hB,rf⟩;have sf:=RF5 rf;refine(MC _ (he.below hB)).mono ?_;rintro e W2⟨rfl,h1⟩;have stp:=St1 hB h1 rf;clear hB h1 rf sf;obtain⟨hB,rf⟩:=stp;have sf:=RF5 rf;go_wp2_with fail;refine(MR _ (he.below hB)).mono ?_;rintro e W3⟨rfl,h1⟩;have stp:=St1 hB h1 rf;clear hB h1 rf sf;obtain⟨hB,rf⟩:=stp;have sf:=RF5 rf;go_wp2_with fail;refine(MG _ (he.below hB)).mono ?_;rintro e W4⟨rfl,h1⟩;have stp:=St1 hB h1 rf;clear hB h1 rf sf;obtain⟨hB,rf⟩:=stp;have sf:=RF5 rf;go_wp2;go_ret;exact⟨rfl,hB⟩
theorem jcd{c1 c2:ByteArray}{l:List RT}{oc:Option Rat}(hc:RK c1 c2 oc){q:Rat}(hq:QDig 200 q)(p:En)(n c:Nat)(hn:l.length=n)(h1:oc.isSome=true)(h3:0<=q)(h4:¬ n<=64)  (w:World) (hp:UAt 34 w p l) (he:Env w):Calls prog 17 #[.agg #[.string c1,.string c2,.slice p n c,.string (S q.num),.string (S (q.den:Int))]] w (qa false w):=by
 have hB:=Ab w;have HP:=hid hp;clear hp;have MC:=fun W (H:Env W)=>hc.valid W H
 rw[h1]at MC;have MR:=fun W (H:Env W)=>qK q hq W H
 have MG:=fun W (H:Env W)=>zaG hq W H
 have h3d:decide (0<=zE q 0)=true:=decide_eq_true (qE.2 h3);unfold jB at MG;generalize zE q 0=g at *;have h4d:¬ (n:Int)<=64:=oo
 unfold qa at *;unfold Q at *;clear hc h1 hq h3 h4;go_enter func17,ntmps17;go_wp2_with fail;have sB:=hB.size;refine za (fun X=>Aa w X/\Row X w.heap.size (.cells #[.string c1,.string c2,.slice p n c,.string (S q.num),.string (S (q.den:Int))] 26)) ⟨BW,RWh⟩ ?_;clear hB sB;rintro V1⟨hB,rf⟩;have sf:=RF5 rf;refine(MC _ (he.below hB)).mono ?_;rintro e W2⟨rfl,h1⟩;have stp:=St1 hB h1 rf;clear hB h1 rf sf;obtain⟨hB,rf⟩:=stp;have sf:=RF5 rf;go_wp2_with fail;refine(MR _ (he.below hB)).mono ?_;rintro e W3⟨rfl,h1⟩;have stp:=St1 hB h1 rf;clear hB h1 rf sf;obtain⟨hB,rf⟩:=stp;have sf:=RF5 rf;go_wp2_with fail;refine(MG _ (he.below hB)).mono ?_;rintro e W4⟨rfl,h1⟩;have stp:=St1 hB h1 rf;clear hB h1 rf sf;obtain⟨hB,rf⟩:=stp;have sf:=RF5 rf;go_wp2;go_ret;exact⟨rfl,hB⟩
theorem kcd{c1 c2:ByteArray}{l:List RT}{oc:Option Rat}(hc:RK c1 c2 oc){q:Rat}(hq:QDig 200 q)(p:En)(n c:Nat)(hn:l.length=n)(h1:oc.isSome=true)(h3:0<=q)(h4:n<=64)(h5:¬ qbd l)  (w:World) (hp:UAt 34 w p l) (he:Env w):Calls prog 17 #[.agg #[.string c1,.string c2,.slice p n c,.string (S q.num),.string (S (q.den:Int))]] w (qa false w):=by
 have hB:=Ab w;have HP:=hid hp;clear hp;have MC:=fun W (H:Env W)=>hc.valid W H
 rw[h1]at MC;have MR:=fun W (H:Env W)=>qK q hq W H
 have MG:=fun W (H:Env W)=>zaG hq W H
 have h3d:decide (0<=zE q 0)=true:=decide_eq_true (qE.2 h3);unfold jB at MG;generalize zE q 0=g at *;have h4d:(n:Int)<=64:=oo
 have MA:=fun W (hp:UAt 34 W p l)=>vcY p n c hn oo W hp
 rw[decide_eq_false h5]at MA;unfold qa at MA;unfold qa at *;unfold Q at *;clear hc h1 hq h3 h5 h4;go_enter func17,ntmps17;go_wp2_with fail;have sB:=hB.size;refine za (fun X=>Aa w X/\Row X w.heap.size (.cells #[.string c1,.string c2,.slice p n c,.string (S q.num),.string (S (q.den:Int))] 26)) ⟨BW,RWh⟩ ?_;clear hB sB;rintro V1⟨hB,rf⟩;have sf:=RF5 rf;refine(MC _ (he.below hB)).mono ?_;rintro e W2⟨rfl,h1⟩;have stp:=St1 hB h1 rf;clear hB h1 rf sf;obtain⟨hB,rf⟩:=stp;have sf:=RF5 rf;go_wp2_with fail;refine(MR _ (he.below hB)).mono ?_;rintro e W3⟨rfl,h1⟩;have stp:=St1 hB h1 rf;clear hB h1 rf sf;obtain⟨hB,rf⟩:=stp;have sf:=RF5 rf;go_wp2_with fail;refine(MG _ (he.below hB)).mono ?_;rintro e W4⟨rfl,h1⟩;have stp:=St1 hB h1 rf;clear hB h1 rf sf;obtain⟨hB,rf⟩:=stp;have sf:=RF5 rf;go_wp2_with fail;refine(MA _ (Ai HP.out hB)).mono ?_;rintro e W5⟨rfl,h1⟩;have stp:=St1 hB h1 rf;clear hB h1 rf sf;obtain⟨hB,rf⟩:=stp;have sf:=RF5 rf;go_wp2;go_ret;exact⟨rfl,hB⟩
theorem ycd{c1 c2:ByteArray}{l:List RT}{oc:Option Rat}(hc:RK c1 c2 oc){q:Rat}(hq:QDig 200 q){ot:Nat->Option Rat}(p:En)(n c:Nat)(hn:l.length=n)(ht:∀ i,i<n->RK (uD l i).a (uD l i).b (ot i))(h1:oc.isSome=true)(h3:0<=q)(h4:n<=64)(h5:qbd l)  (w:World) (hp:UAt 34 w p l) (he:Env w):Calls prog 17 #[.agg #[.string c1,.string c2,.slice p n c,.string (S q.num),.string (S (q.den:Int))]] w (qa (!decide (∃ i,i<n/\zap (ot i)=true)) w):=by
 have hB:=Ab w;have HP:=hid hp;clear hp;have MC:=fun W (H:Env W)=>hc.valid W H
 rw[h1]at MC;have MR:=fun W (H:Env W)=>qK q hq W H
 have MG:=fun W (H:Env W)=>zaG hq W H
 have h3d:decide (0<=zE q 0)=true:=decide_eq_true (qE.2 h3);unfold jB at MG;generalize zE q 0=g at *;have h4d:(n:Int)<=64:=oo
 have MA:=fun W (hp:UAt 34 W p l)=>vcY p n c hn oo W hp
 rw[decide_eq_true h5]at MA;unfold qa at MA;have MW:=fun W (hp:UAt 34 W p l) (H:Env W)=>jaI (l:=l) (fun i=>zap (ot i)) 44 (enters_of func44 kr9 rfl) p n c hn oo W hp (fun i hi X hX=>kcO (uD l i) (ht i hi) X (H.below hX))
 generalize decide (∃ i,i<n/\zap (ot i)=true)=v at *;unfold qa at MW;unfold qa at *;unfold Q at *;clear hc h1 hq h3 h5 ht h4;go_enter func17,ntmps17;go_wp2_with fail;have sB:=hB.size;refine za (fun X=>Aa w X/\Row X w.heap.size (.cells #[.string c1,.string c2,.slice p n c,.string (S q.num),.string (S (q.den:Int))] 26)) ⟨BW,RWh⟩ ?_;clear hB sB;rintro V1⟨hB,rf⟩;have sf:=RF5 rf;refine(MC _ (he.below hB)).mono ?_;rintro e W2⟨rfl,h1⟩;have stp:=St1 hB h1 rf;clear hB h1 rf sf;obtain⟨hB,rf⟩:=stp;have sf:=RF5 rf;go_wp2_with fail;refine(MR _ (he.below hB)).mono ?_;rintro e W3⟨rfl,h1⟩;have stp:=St1 hB h1 rf;clear hB h1 rf sf;obtain⟨hB,rf⟩:=stp;have sf:=RF5 rf;go_wp2_with fail;refine(MG _ (he.below hB)).mono ?_;rintro e W4⟨rfl,h1⟩;have stp:=St1 hB h1 rf;clear hB h1 rf sf;obtain⟨hB,rf⟩:=stp;have sf:=RF5 rf;go_wp2_with fail;refine(MA _ (Ai HP.out hB)).mono ?_;rintro e W5⟨rfl,h1⟩;have stp:=St1 hB h1 rf;clear hB h1 rf sf;obtain⟨hB,rf⟩:=stp;have sf:=RF5 rf;go_wp2_with fail;clear rf sf;refine(MW _ (Ai HP.out hB) (he.below hB)).mono ?_;rintro e W6⟨rfl,h1⟩;have stp:=St0 hB h1;clear hB h1;have hB:=stp;clear stp;go_wp2;go_ret;exact⟨rfl,hB⟩
theorem vbP{c1 c2 r1 r2:ByteArray}{l:List RT}{oc orr:Option Rat}{ot:Nat->Option Rat}(hc:RK c1 c2 oc)(hr:RK r1 r2 orr){n:Nat}(ht:∀ i,i<n->RK (uD l i).a (uD l i).b (ot i))(p:En)(c:Nat)(hn:l.length=n)(w:World)(hp:UAt 34 w p l)(he:Env w) :
  Calls prog 17 #[.agg #[.string c1,.string c2,.slice p n c,.string r1,.string r2]] w (qa (vfB oc orr ot l n) w):=by
 unfold vfB
 cases h1:oc.isSome with
 | false=>exact vcc hc p n c hn h1 w hp he
 | true =>
  cases orr with
  | none=>exact zcd hc hr p n c hn h1 rfl w hp he
  | some q =>
   obtain⟨rfl,rfl,hq⟩:=hr;by_cases h3:0<=q
   ·by_cases h4:n<=64
    ·by_cases h5:qbd l
     ·simp only[DH,Bool.true_and,decide_eq_true h3,decide_eq_true h4,decide_eq_true h5];exact ycd hc hq p n c hn ht h1 h3 h4 h5 w hp he
     ·simp only[decide_eq_false h5,Bool.false_and,Bool.and_false];exact kcd hc hq p n c hn h1 h3 h4 h5 w hp he
    ·simp only[decide_eq_false h4,Bool.false_and,Bool.and_false];exact jcd hc hq p n c hn h1 h3 h4 w hp he
   ·simp only[decide_eq_false h3,Bool.false_and,Bool.and_false];exact qcd hc hq p n c hn h1 h3 w hp he
theorem zcY{f:Frm}(h:f.Ok):vfB (some f.c) (some f.r) (fun i=>some (trD f.t i).c) (kN f.t) f.t.length=true:=by
 unfold vfB;simp only[DH,Bool.true_and,decide_eq_true h.rest,decide_eq_true h.few,decide_eq_true (qaY h.src)];rw[decide_eq_false]
 ·rfl
 ·rintro⟨i,hi,hw⟩;exact h.nz _ (yk hi) (of_decide_eq_true hw)
theorem jY{f:Frm}(ho:f.Ok)(hd:FDig 200 f)(p:En)(c:Nat)(w:World)(hp:TAt 34 w p f.t)(he:Env w):Calls prog 17 #[FV f p c] w (qa true w):=by
 have h:=vbP (l:=kN f.t) (n:=f.t.length) (RK.of hd.c) (RK.of hd.r) (ot:=fun i=>some (trD f.t i).c) (fun i hi=>by rw[yQ hi];exact RK.of (hd.t _ (yk hi))) p c (kf f.t) w hp he;rw[zcY ho]at h;exact h
def yZ(o:Oper):Bool:=(match o.op with | .alloc _=>true|_=>false)&&o.guard.isNone
theorem ybk{P:Program}{ρ:Operand->Value}{o:Oper}{W W':World}{n:Next}(h:yZ o=true)(hr:(execOp ρ o).run P W=.ok n W'):n=.value (.pointer (some ⟨W.heap.size,0,none⟩))/\W.heap.size<W'.heap.size:=by
 unfold yZ at h;rw[AV]at h;have h1:=h.1
 cases ho:o.op with
 | alloc e =>
  simp[execOp,ho,go_sem]at hr
  cases hz:Sem.run P (zeroValue e) W with
  | halt x W1=>rw[hz]at hr;cases hr
  | ok v W1 =>
   rw[hz]at hr;simp only[Result.andThen,Result.ok.injEq]at hr;have hw:W1=W:=by
    unfold zeroValue typeInfo at hz
    cases hi:P.info? e with
    | none=>simp[go_sem,hi]at hz
    | some i =>
     cases hzz:i.zero with
     | none=>simp[go_sem,hi,hzz]at hz
     | some z=>simp[go_sem,hi,hzz]at hz;exact hz.2.symm
   obtain⟨rfl,rfl⟩:=hr;subst hw;exact⟨rfl,by simp⟩
 | _=>simp[ho]at h1
structure ApartAt(ops:Array Oper)(listed:Array Bool)(a:Act)(W:World):Prop where
 old:∀ i (o:Oper) t,ops[i]? = some o->yZ o=true->o.dst=some t->listed.getD i false=true->∃ b,a.eval (.tmp t)=.pointer (some ⟨b,0,none⟩)/\b<W.heap.size
 apart:∀ i j (o p:Oper) t s,ops[i]? = some o->ops[j]? = some p->yZ o=true->yZ p=true->o.dst=some t->p.dst=some s->i≠j->listed.getD i false=true->listed.getD j false=true->a.eval (.tmp t)≠a.eval (.tmp s)
theorem qL{P:Program}{ops:Array Oper}{Q:Exit->Act->World->Prop}{Sp:Nat->zY}{tmps:Array Value}{ds:List Deferred}{w:World}{fl:List Oper}
  (hmono:∀ i v W W',Sp i v W->Below W.heap.size W W'->Sp i v W') (hfit:quietFit ops tmps.size=true)
  {i:Nat} {o:Oper} {listed:Array Bool} {a:Act} {W:World} (hob0:kU P ops fl Sp tmps w i o) (hfl:∀ j (p:Oper),ops[j]? = some p->listed.getD j false=true->p∈fl) (ho:ops[i]? = some o) (hJ:QuietAt ops Sp tmps ds w listed a W) (hA:ApartAt ops listed a W)
  (hni:listed.getD i false=false) (hdep:∀ e∈o.after,Region.binds .any e=true->listed.getD e.on false=true) :
  wpOp P ops Q i (fun a' W'=>QuietAt ops Sp tmps ds w (listed.setIfInBounds i true) a' W'/\ApartAt ops (listed.setIfInBounds i true) a' W') a W:=by
 have hob:=hob0 a.eval W hJ.below (fun _=>rfl) (fun _=>rfl) (fun _=>rfl)
  (fun t ht=>by rw[vw,Aj,Aj,hJ.same t (fun j p hp hl=>qx ht (hfl j p hp hl))])
  (jL _ fun e he hb p t hp ht=>hJ.done e.on p t hp ht (hdep e (by simpa using he) hb))
 have other:∀ v j (p:Oper) t,ops[j]? = some p->p.dst=some t->j≠i->(a.put o.dst v).eval (.tmp t)=a.eval (.tmp t):=by
  intro v j p t hp ht hji;have h2:=quietFit.own hfit hp ho ht (Ne.symm hji);rw[vw,vw];unfold Act.put
  cases hd:o.dst with
  | none=>rfl
  | some d =>
   have:d≠t:=fun e=>h2 (by rw[hd,e])
   simp only;rw[Aj,AL this,<- Aj]
 have own:∀ v t,o.dst=some t->(a.put o.dst v).eval (.tmp t)=v:=by
  intro v t ht;rw[vw];unfold Act.put;rw[ht];simp only;rw[Aj,Bg,if_pos (by rw[hJ.size];exact quietFit.lt hfit ho ht)];rfl
 have fin:∀ v W',Sp i v W'->Below W.heap.size W W'->(yZ o=true->v=.pointer (some ⟨W.heap.size,0,none⟩)/\W.heap.size<W'.heap.size)->QuietAt ops Sp tmps ds w (listed.setIfInBounds i true) (a.put o.dst v) W'/\ApartAt ops (listed.setIfInBounds i true) (a.put o.dst v) W':=by
  intro v W' hs hB hnew;refine⟨⟨hJ.below.trans (hB.mono hJ.below.size),?_,?_,by rw[BL];exact hJ.lsize,?_,?_⟩,⟨?_,?_⟩⟩
  ·rw[<- hJ.defers];unfold Act.put;split<;>rfl
  ·rw[<- hJ.size];unfold Act.put;split<;>simp
  ·intro j p t hp ht hj;by_cases hji:j=i
   ·subst hji;rw[ho]at hp;cases hp;rw[own v t ht];exact hs
   ·rw[other v j p t hp ht hji];exact hmono _ _ _ _ (hJ.done j p t hp ht ((vm hj).resolve_left hji)) hB
  ·intro t ht;have hself:o.dst≠some t:=ht i o ho (qD (by rw[hJ.lsize];exact(Ag.1 ho).1));rw[<- hJ.same t (fun j p hp hl=>ht j p hp (qu hl))];unfold Act.put
   cases hd:o.dst with
   | none=>rfl
   | some d =>
    have:d≠t:=fun e=>hself (by rw[hd,e])
    simp only;rw[AL this]
  ·intro j p t hp hn ht hj;by_cases hji:j=i
   ·subst hji;rw[ho]at hp;cases hp;rw[own v t ht];exact⟨_,(hnew hn).1,(hnew hn).2⟩
   ·rw[other v j p t hp ht hji];obtain⟨b,e,hb⟩:=hA.old j p t hp hn ht ((vm hj).resolve_left hji);exact⟨b,e,AG hb hB.size⟩
  ·intro j k p q t s hp hq hnp hnq ht hs' hne hj hk;by_cases hji:j=i
   ·subst hji;rw[ho]at hp;cases hp;rw[own v t ht,other v k q s hq hs' (Ne.symm hne),(hnew hnp).1];obtain⟨b,e,hb⟩:=hA.old k q s hq hnq hs' ((vm hk).resolve_left (Ne.symm hne));rw[e];intro h;simp at h
    try omega
   ·rw[other v j p t hp ht hji];by_cases hki:k=i
    ·subst hki;rw[ho]at hq;cases hq;rw[own v s hs',(hnew hnq).1];obtain⟨b,e,hb⟩:=hA.old j p t hp hnp ht ((vm hj).resolve_left hji);rw[e];intro h;simp at h
     try omega
    ·rw[other v k q s hq hs' hki];exact hA.apart j k p q t s hp hq hnp hnq ht hs' hne ((vm hj).resolve_left hji) ((vm hk).resolve_left hki)
 unfold wpOp;simp only[ho];rw[jau];split at hob
 ·rename_i hw;rw[if_pos hw];left;unfold Oper.wp Oper.upon
  cases hr:(execOp a.eval o).run P W with
  | ok n W' =>
   rw[hr]at hob
   cases n with
   | value v=>exact fin v W' hob.1 hob.2 (fun hn=>by have:=ybk hn hr;simpa using this)
   | skip=>exact fin _ W' hob.1 hob.2 (fun hn=>by have:=ybk hn hr;cases this.1)
   | enter f args =>
    refine Calls.mono hob.2 fun e W'' he => ?_
    obtain⟨v,rfl,hs,hB⟩:=he;exact fin v W'' hs (hob.1.trans (hB.mono hob.1.size)) (fun hn=>by have:=ybk hn hr;cases this.1)
   | _=>exact hob.elim
  | halt x W'=>rw[hr]at hob;exact hob.elim
 ·rename_i hw;rw[if_neg hw];refine fin _ W hob (Au _ _) (fun hn => ?_);exfalso;apply hw;unfold yZ at hn;rw[AV]at hn;have hg:o.guard=none:=by simpa using hn.2
  simp[Region.wanted,hg]
def zK:List Oper->List Nat
 | []=>[]
 | o :: l=>match o.dst with|some t=>if yZ o then t :: zK l else zK l|none=>zK l
def za0(L:List Nat)(T:Array Value):Prop:=L.Pairwise fun t s=>T.getD t undef≠T.getD s undef
theorem kaF{t:Nat}:∀ {l:List Oper},t∈zK l->∃(i:Nat) (o:Oper),l[i]? = some o/\yZ o=true/\o.dst=some t
 | [],h=>by cases h
 | o :: l,h=>by
  have back:t∈zK l->∃(i:Nat) (p:Oper),(o :: l)[i]? = some p/\yZ p=true/\p.dst=some t:=fun h=>by
   obtain⟨i,p,h1,h2⟩:=kaF h;exact⟨i+1,p,by simpa using h1,h2⟩
  unfold zK at h
  cases hd:o.dst with
  | none=>rw[hd]at h;exact back h
  | some d =>
   rw[hd]at h;simp only at h;split at h
   ·rename_i hn;rcases Bd.1 h with rfl|h
    ·exact⟨0,o,rfl,hn,hd⟩
    ·exact back h
   ·exact back h
theorem yax{T:Array Value}:∀ {l:List Oper},(∀(i j:Nat) (o p:Oper) (t s:Nat),l[i]? = some o->l[j]? = some p->yZ o=true->yZ p=true->o.dst=some t->p.dst=some s->i≠j->T.getD t undef≠T.getD s undef)->za0 (zK l) T
 | [],_=>DQ
 | o :: l,h=>by
  have ih:za0 (zK l) T:=yax fun i j p q t s hp hq h1 h2 h3 h4 hne=>h (i+1) (j+1) p q t s (by simpa using hp) (by simpa using hq) h1 h2 h3 h4 oo
  unfold zK
  cases hd:o.dst with
  | none=>exact ih
  | some d =>
   simp only;split
   ·rename_i hn;refine List.Pairwise.cons (fun s hs => ?_) ih;obtain⟨j,p,hp,hnp,hps⟩:=kaF hs;exact h 0 (j+1) o p d s rfl (by simpa using hp) hn hnp hd hps oo
   ·exact ih
def yg(Q:Exit->Act->World->Prop):Exit->Act->World->Prop
 | .normal,a,w=>Q .normal a w
 | _,_,_=>False
def vaD(o:Oper):Bool:=(match o.op with | .extract _ _=>true | .move _=>true | .assign _=>true|_=>false)&&o.guard.isNone
def zI(o:Oper):Bool:=(match o.op with | .extract _ _=>true | .move _=>true | .assign _=>true | .store _ _ _=>true | .indexAddr _ _ _=>true|_=>false)&&o.guard.isNone
theorem jK{o:Oper}(h:vaD o=true):zI o=true:=by
 unfold vaD at h;unfold zI;rw[AV]at h ⊢;refine⟨?_,h.2⟩;have h1:=h.1
 cases ho:o.op<;>simp[ho]at h1 ⊢
theorem kQ{o:Oper}(h:zI o=true):o.guard=none:=by
 unfold zI at h;rw[AV]at h;simpa using h.2
theorem qar{ρ ρ':Operand->Value}{o:Oper}(h:zI o=true)(ha:∀ x∈o.op.operands,ρ x=ρ' x):execOp ρ o=execOp ρ' o:=by
 unfold zI at h;rw[AV]at h;have h1:=h.1
 cases ho:o.op with
 | extract x i =>
  have:=ha x (by simp[ho,Op.operands]);simp[execOp,ho,this]
 | move x =>
  have:=ha x (by simp[ho,Op.operands]);simp[execOp,ho,this]
 | assign x =>
  have:=ha x (by simp[ho,Op.operands]);simp[execOp,ho,this]
 | store t x y =>
  have e1:=ha x (by simp[ho,Op.operands]);have e2:=ha y (by simp[ho,Op.operands]);simp[execOp,ho,e1,e2]
 | indexAddr t x y =>
  have e1:=ha x (by simp[ho,Op.operands]);have e2:=ha y (by simp[ho,Op.operands]);simp[execOp,ho,e1,e2]
 | _=>simp[ho]at h1
theorem vbI{P:Program}{ρ:Operand->Value}{o:Oper}{W W':World}{n:Next}(h:zI o=true)(hr:(execOp ρ o).run P W=.ok n W'):n=.skip\/∃ v,n=.value v:=by
 unfold zI at h;rw[AV]at h;have h1:=h.1
 cases ho:o.op with
 | extract x i =>
  have e:execOp ρ o=(Instr.extract (ρ x) i >>= fun v=>pure (.value v)):=by simp only[execOp,ho]
  rw[e,Sem.run_bind]at hr
  cases hz:Sem.run P (Instr.extract (ρ x) i) W with
  | halt y W1=>rw[hz]at hr;cases hr
  | ok v W1=>rw[hz]at hr;simp[Result.andThen]at hr;exact .inr ⟨v,hr.1.symm⟩
 | move x=>simp[execOp,ho,go_sem]at hr;exact .inr ⟨_,hr.1.symm⟩
 | assign x=>simp[execOp,ho,go_sem]at hr;exact .inr ⟨_,hr.1.symm⟩
 | store t x y =>
  have e:execOp ρ o=(Instr.storeAt t (ρ x) (ρ y) >>= fun _=>pure .skip):=by simp only[execOp,ho]
  rw[e,Sem.run_bind]at hr
  cases hz:Sem.run P (Instr.storeAt t (ρ x) (ρ y)) W with
  | halt y W1=>rw[hz]at hr;cases hr
  | ok v W1=>rw[hz]at hr;simp[Result.andThen]at hr;exact .inl hr.1.symm
 | indexAddr t x y =>
  have e:execOp ρ o=(Instr.indexAt t (ρ x) (ρ y) >>= fun v=>pure (.value v)):=by simp only[execOp,ho]
  rw[e,Sem.run_bind]at hr
  cases hz:Sem.run P (Instr.indexAt t (ρ x) (ρ y)) W with
  | halt y W1=>rw[hz]at hr;cases hr
  | ok v W1=>rw[hz]at hr;simp[Result.andThen]at hr;exact .inr ⟨v,hr.1.symm⟩
 | _=>simp[ho]at h1
theorem qco{P:Program}{ρ:Operand->Value}{o:Oper}{W W':World}{n:Next}(h:vaD o=true)(hr:(execOp ρ o).run P W=.ok n W'):∃ v,n=.value v/\∀ X,(execOp ρ o).run P X=.ok (.value v) X:=by
 unfold vaD at h;rw[AV]at h;have h1:=h.1
 cases ho:o.op with
 | extract x i =>
  cases hx:ρ x with
  | tuple vs =>
   cases hv:vs[i]? with
   | none=>simp[execOp,ho,go_sem,Instr.extract,hx,hv]at hr
   | some u=>simp[execOp,ho,go_sem,Instr.extract,hx,hv]at hr;exact⟨u,hr.1.symm,fun X=>by simp[execOp,ho,go_sem,Instr.extract,hx,hv]⟩
  | _=>simp[execOp,ho,go_sem,Instr.extract,hx]at hr
 | move x=>simp[execOp,ho,go_sem]at hr;exact⟨_,hr.1.symm,fun X=>by simp[execOp,ho,go_sem]⟩
 | assign x=>simp[execOp,ho,go_sem]at hr;exact⟨_,hr.1.symm,fun X=>by simp[execOp,ho,go_sem]⟩
 | _=>simp[ho]at h1
def waits(o:Oper)(j:Nat):Bool:=o.after.any fun e=>decide (e.on=j)&&Region.binds .any e
theorem kaJ{o:Oper}{j:Nat}(h:waits o j=true):∃ e∈o.after,e.on=j/\Region.binds .any e=true:=by
 obtain⟨e,he,h3⟩:=DJ.1 h;simp only[AV,decide_eq_true_eq]at h3;exact⟨e,he,h3⟩
def zO(ops:Array Oper):Nat->Oper->Nat->Bool
 | 0,o,j=>waits o j
 | f+1,o,j=>waits o j||o.after.any fun e=>Region.binds .any e&&(match ops[e.on]? with|some p=>zO ops f p j|none=>false)
def yad(ops:Array Oper)(listed:Array Bool):Prop:=∀ i (o:Oper),ops[i]? = some o->listed.getD i false=true->∀ e∈o.after,Region.binds .any e=true->listed.getD e.on false=true
theorem yx{ops:Array Oper}{listed:Array Bool}(hc:yad ops listed):∀(f:Nat) (o:Oper) (j:Nat),(∀ e∈o.after,Region.binds .any e=true->listed.getD e.on false=true)->zO ops f o j=true->listed.getD j false=true
 | 0,o,j,hd,h=>by
  obtain⟨e,he,hek,hb⟩:=kaJ h;rw[<- hek];exact hd e he hb
 | f+1,o,j,hd,h=>by
  unfold zO at h;rw[DE]at h;rcases h with h|h
  ·obtain⟨e,he,hek,hb⟩:=kaJ h;rw[<- hek];exact hd e he hb
  ·obtain⟨e,he,h3⟩:=DJ.1 h;rw[AV]at h3
   cases hp:ops[e.on]? with
   | none=>rw[hp]at h3;cases h3.2
   | some p =>
    rw[hp]at h3;exact yx hc f p j (hc e.on p hp (hd e he h3.1)) h3.2
theorem zB{ops:Array Oper}{listed:Array Bool}{i:Nat}{o:Oper}(hc:yad ops listed)(ho:ops[i]? = some o)(hd:∀ e∈o.after,Region.binds .any e=true->listed.getD e.on false=true):yad ops (listed.setIfInBounds i true):=by
 intro j p hp hj e he hb;refine qu ?_;rcases vm hj with rfl|hj
 ·rw[ho]at hp;cases hp;exact hd e he hb
 ·exact hc j p hp hj e he hb
def qZ(ops:Array Oper)(o:Oper)(D:List Nat):Bool:=o.op.operands.all fun x=>D.all fun c=>match x,ops[c]? with | .tmp t,some p=>p.dst != some t|_,_=>true
theorem qag{ops:Array Oper}{o:Oper}{D:List Nat}(h:qZ ops o D=true){t c:Nat}(hx:Operand.tmp t∈o.op.operands)(hc:c∈D){p:Oper}(hp:ops[c]? = some p):p.dst≠some t:=by
 unfold qZ at h;rw[Array.all_eq_true_iff_forall_mem]at h;have h1:=h _ hx;rw[Be]at h1;have h2:=h1 c hc;rw[hp]at h2;simpa using h2
def qas(ops:Array Oper)(n:Nat)(C:List Nat):Bool :=
 (C.all fun c=>decide (c<n)&&match ops[c]? with|some o=>vaD o&&o.dst.isSome&&qZ ops o C&&qZ ops o (List.range' n (ops.size-n))&&(C.all fun j => !waits o j)|none=>false) &&
 (List.range' n (ops.size-n)).all fun i=>match ops[i]? with
  | some o=>zI o&&((List.range i).all fun j=>C.contains j||zO ops ops.size o j)&&qZ ops o (C.filter fun c => !waits o c)
  | none=>false
structure LateC(ops:Array Oper)(n:Nat)(C:List Nat)(c:Nat)(o:Oper):Prop where
 lt:c<n
 pure_:vaD o=true
 dst:∃ t,o.dst=some t
 own:qZ ops o C=true
 tail:qZ ops o (List.range' n (ops.size-n))=true
 free:∀ j∈C,waits o j=false
theorem zw{ops:Array Oper}{n:Nat}{C:List Nat}(h:qas ops n C=true){c:Nat}{o:Oper}(hc:c∈C)(ho:ops[c]? = some o):LateC ops n C c o:=by
 unfold qas at h;rw[AV,Be]at h;have h1:=h.1 c hc;rw[ho]at h1;simp only[AV,decide_eq_true_eq,Be,Dp]at h1;obtain⟨h0,⟨⟨⟨h2,h3⟩,h4⟩,h5⟩,h6⟩:=h1;exact⟨h0,h2,Option.isSome_iff_exists.1 h3,h4,h5,h6⟩
structure TailI(ops:Array Oper)(C:List Nat)(i:Nat)(o:Oper):Prop where
 simple:zI o=true
 wait:∀ j,j<i->j ∉ C->zO ops ops.size o j=true
 own:qZ ops o (C.filter fun c => !waits o c)=true
theorem zaa{ops:Array Oper}{n:Nat}{C:List Nat}(h:qas ops n C=true){i:Nat}{o:Oper}(hi:n<=i)(ho:ops[i]? = some o):TailI ops C i o:=by
 unfold qas at h;rw[AV,Be,Be]at h;have hlt:=(Ag.1 ho).1;have h1:=h.2 i (by rw[List.mem_range'_1];omega);rw[ho]at h1;simp only[AV,Be,DE]at h1;obtain⟨⟨h2,h3⟩,h4⟩:=h1;exact⟨h2,fun j hj hC=>(h3 j (BB.2 hj)).resolve_left (by simpa using hC),h4⟩
theorem qat{a:Act}{d:Option Nat}{v:Value}{t:Nat}:(a.put d v).tmps[t]? = if d=some t then(if t<a.tmps.size then some v else none) else a.tmps[t]? := by
 unfold Act.put
 cases d with
 | none=>simp
 | some s =>
  by_cases h:s=t
  ·subst h;simp[Bg]
  ·simp[h,AL h]
theorem kaW{a:Act}{d:Option Nat}{v:Value}:(a.put d v).tmps.size=a.tmps.size:=by unfold Act.put;split<;>simp
theorem jaN{a:Act}{d:Option Nat}{v:Value}:(a.put d v).defers=a.defers:=by unfold Act.put;split<;>rfl
theorem zar{a b:Act}{o:Oper}(h:∀ t,Operand.tmp t∈o.op.operands->a.tmps[t]? = b.tmps[t]?):∀ x∈o.op.operands,a.eval x=b.eval x:=by
 intro x hx
 cases x with
 | tmp t=>rw[vw,vw,Aj,Aj,h t hx]
 | _=>rfl
theorem ybK{P:Program}{ops:Array Oper}{Q:Exit->Act->World->Prop}{n N:Nat}{C:List Nat}(hfit:quietFit ops N=true)(hlate:qas ops n C=true) :
  ∀(fuel:Nat) (listed:Array Bool) (a:Act) (W:World) (k:Nat) (T:Array Value),n<=k->k<=ops.size->listed.size=ops.size->yad ops listed->(∀ i,i<k->i ∉ C->listed.getD i false=true)->(∀ i,k<=i->listed.getD i false=false) ->
   a.tmps.size=N->T.size=N->(∀ t,(∀ c (o:Oper),c∈C->ops[c]? = some o->listed.getD c false=false->o.dst≠some t)->a.tmps[t]? = T[t]?) ->
   (∀ c (o:Oper) t,c∈C->ops[c]? = some o->listed.getD c false=false->o.dst=some t->∀ X,(execOp a.eval o).run P X=.ok (.value (T.getD t undef)) X) ->
   listed.toList.count false<=fuel->wpOps P ops (yg Q) (List.range' k (ops.size-k)) ⟨T,a.defers⟩ W->wpAny P .any ops Q fuel listed a W:=by
 have hdone:∀(listed:Array Bool) (a:Act) (W:World) (k:Nat) (T:Array Value),n<=k->k<=ops.size->listed.size=ops.size->(∀ i,k<=i->listed.getD i false=false)->a.tmps.size=N->T.size=N->(∀ t,(∀ c (o:Oper),c∈C->ops[c]? = some o->listed.getD c false=false->o.dst≠some t)->a.tmps[t]? = T[t]?) ->
   wpOps P ops (yg Q) (List.range' k (ops.size-k)) ⟨T,a.defers⟩ W->Region.ready .any ops listed=[]->Q .normal a W:=by
  intro listed a W k T hnk hk hs h2 hsa hsT hag h hr;have hl:∀ i,i<ops.size->listed.getD i false=true:=by
   intro i
   induction i using Nat.strongRecOn with
   | _ i ih =>
    intro hi;rcases hc:listed.getD i false with _|_
    ·exfalso;have hm:i∈Region.ready .any ops listed:=by
      refine mem_ready.2 ⟨?_,ops[i],by simp[hi],fun e he hb => ?_⟩
      ·rw[Aj]at hc ⊢;have:i<listed.size:=by rw[hs];exact hi
       rw[AK this]at hc ⊢;exact hc
      ·have h1:=quietFit.edge hfit (i:=i) (o:=ops[i]) (by simp[hi]) he hb;exact ih e.on h1 oo
     rw[hr]at hm;cases hm
    ·rfl
  have hkk:k=ops.size:=by
   rcases AJ k ops.size with hlt|hge
   ·have:=hl k hlt;rw[h2 k (Am _)]at this;cases this
   ·omega
  have ht:a.tmps=T:=Array.ext_getElem? fun t=>hag t fun c o hc ho hn=>by
   have:=hl c (Ag.1 ho).1;rw[hn]at this;cases this
  subst hkk;rw[Ei]at h;have h':yg Q .normal ⟨T,a.defers⟩ W:=h;rw[<- ht]at h';exact h'
 intro fuel
 induction fuel with
 | zero =>
  intro listed a W k T hnk hk hs hclo h1 h2 hsa hsT hag hpu hc h;have hr:Region.ready .any ops listed=[]:=by
   rw[Cs];intro i hi;have h3:=qw hi hs;obtain⟨_,o,ho,_⟩:=mem_ready.1 hi;have hlt:i<listed.size:=by rw[hs];exact(Ag.1 ho).1
   rw[Aj,AK hlt]at h3;have:false∈listed.toList:=by
    have h4:listed[i]=false:=h3;rw[<- h4];simp
   have:=BI.2 this;omega
  exact⟨hr,hdone listed a W k T hnk hk hs h2 hsa hsT hag h hr⟩
 | succ fuel ih =>
  intro listed a W k T hnk hk hs hclo h1 h2 hsa hsT hag hpu hc h;refine⟨fun hr=>hdone listed a W k T hnk hk hs h2 hsa hsT hag h hr,fun i hi => ?_⟩;have hnl:=qw hi hs;obtain⟨h4,o,ho,hdep⟩:=mem_ready.1 hi;have hlt:i<listed.size:=by rw[hs];exact(Ag.1 ho).1
  have hcnt:(listed.setIfInBounds i true).toList.count false<=fuel:=by
   rw[Aj,AK hlt]at h4;have h5:listed.toList[i]'(by simpa using hlt)=false:=by simpa using h4
   rw[Cg];have h6:=DR (l:=listed.toList) (a:=true) (b:=false) (i:=i) (by simpa using hlt);have h7:0<listed.toList.count false:=BI.2 (by rw[<- h5];exact CK _);rw[h6,h5];show List.count false listed.toList-1+0<=fuel;omega
  rcases AJ i k with hik|hik
  ·
   have hC:i∈C:=by
    rcases Decidable.em (i∈C)with h|h
    ·exact h
    ·have:=h1 i hik h;rw[hnl]at this;cases this
   have hL:=zw hlate hC ho;obtain⟨t,ht⟩:=hL.dst;have hrun:=hpu i o t hC ho hnl ht W;have htN:t<N:=quietFit.lt hfit ho ht;unfold wpOp;simp only[ho];rw[if_pos (by simp[Region.wanted,kQ (jK hL.pure_)])];left;unfold Oper.wp;rw[hrun,Oper.upon_value];refine ih _ _ W k T hnk hk (by rw[BL];exact hs) (zB hclo ho hdep) (fun j hj hjC=>qu (h1 j hj hjC)) (fun j hj => ?_) (by rw[kaW];exact hsa) hsT (fun s hs' => ?_) (fun c p s hcC hp hcn hps X => ?_) hcnt (by rw[jaN];exact h)
   ·rcases hcc:(listed.setIfInBounds i true).getD j false with _|_
    ·rfl
    ·have:=(vm hcc).resolve_left oo;rw[h2 j hj]at this;cases this
   ·rw[qat];by_cases hst:o.dst=some s
    ·rw[if_pos hst];rw[ht]at hst;cases hst;have h8:=Nat.lt_of_lt_of_eq htN hsa.symm;have h9:=Nat.lt_of_lt_of_eq htN hsT.symm;rw[if_pos h8,Aj,AK h9];rfl
    ·rw[if_neg hst];refine hag s fun c p hcC hp hcn => ?_
     by_cases hci:c=i
     ·subst hci;rw[ho]at hp;cases hp;exact hst
     ·refine hs' c p hcC hp ?_;rcases hcc:(listed.setIfInBounds i true).getD c false with _|_
      ·rfl
      ·have:=(vm hcc).resolve_left hci;rw[hcn]at this;cases this
   ·have hcn':listed.getD c false=false:=by
     rcases hcc:listed.getD c false with _|_
     ·rfl
     ·rw[qu hcc]at hcn;cases hcn
    have hLc:=zw hlate hcC hp;rw[<- qar (jK hLc.pure_) (zar fun s' hs' => ?_),hpu c p s hcC hp hcn' hps X];rw[qat,if_neg (qag hLc.own hs' hC ho)]
  ·
   have hik':i=k:=by
    rcases Dc hik with h|h
    ·exact h.symm
    ·have hkC:k ∉ C:=fun hkC=>by
      have:=(zw hlate hkC (show ops[k]? = some (ops[k]'(by have:=(Ag.1 ho).1;omega)) by simp)).lt;omega
     have:=yx hclo ops.size o k hdep ((zaa hlate oo ho).wait k h hkC);rw[h2 k (Am _)]at this;cases this
   subst hik';have hT:=zaa hlate hnk ho;have hilt:i<ops.size:=(Ag.1 ho).1;obtain⟨m,hm⟩:∃ m,ops.size-i=m+1:=⟨ops.size-i-1,oo⟩
   rw[hm,Ea,wpOps_cons]at h;have hex:execOp a.eval o=execOp (Act.eval ⟨T,a.defers⟩) o:=qar hT.simple (zar fun s hs'=>hag s fun c p hcC hp hcn=>by
    rcases hw:waits o c with _|_
    ·exact qag hT.own hs' (List.mem_filter.2 ⟨hcC,by rw[hw];rfl⟩) hp
    ·obtain⟨e,he,hek,hb⟩:=kaJ hw;have:=hdep e he hb;rw[hek,hcn]at this;cases this)
   unfold wpOp at h ⊢;simp only[ho]at h ⊢;rw[if_pos (by simp[Region.wanted,kQ hT.simple])]at h ⊢;left;have hwp:o.wp P ⟨T,a.defers⟩ W (wpOps P ops (yg Q) (List.range' (i+1) m)) (yg Q):=by
    rcases h with h|h
    ·exact h
    ·obtain⟨x,y,hxy⟩:=h.2;exact(show False from hxy).elim
   unfold Oper.wp at hwp ⊢;rw[<- hex]at hwp;have key:∀ v W',wpOps P ops (yg Q) (List.range' (i+1) m) ((⟨T,a.defers⟩:Act).put o.dst v) W'->wpAny P .any ops Q fuel (listed.setIfInBounds i true) (a.put o.dst v) W':=by
    intro v W' h';refine ih _ _ W' (i+1) ((⟨T,a.defers⟩:Act).put o.dst v).tmps oo oo (by rw[BL];exact hs) (zB hclo ho hdep) (fun j hj hjC => ?_) (fun j hj => ?_) (by rw[kaW];exact hsa) (by rw[kaW];exact hsT) (fun s hs' => ?_) (fun c p s hcC hp hcn hps X => ?_) hcnt ?_
    ·by_cases hji:j=i
     ·subst hji;exact qD hlt
     ·exact qu (h1 j oo hjC)
    ·rcases hcc:(listed.setIfInBounds i true).getD j false with _|_
     ·rfl
     ·have:=(vm hcc).resolve_left oo;rw[h2 j oo]at this;cases this
    ·rw[qat,qat];by_cases hst:o.dst=some s
     ·rw[if_pos hst,if_pos hst];simp only;rw[hsa,hsT]
     ·rw[if_neg hst,if_neg hst];refine hag s fun c p hcC hp hcn=>hs' c p hcC hp ?_
      rcases hcc:(listed.setIfInBounds i true).getD c false with _|_
      ·rfl
      ·have hci:c≠i:=fun e=>by subst e;have:=(zw hlate hcC ho).lt;omega
       have:=(vm hcc).resolve_left hci;rw[hcn]at this;cases this
    ·have hcn':listed.getD c false=false:=by
      rcases hcc:listed.getD c false with _|_
      ·rfl
      ·rw[qu hcc]at hcn;cases hcn
     have hLc:=zw hlate hcC hp;have hci:c≠i:=fun e=>by subst e;have:=hLc.lt;omega
     rw[<- qar (jK hLc.pure_) (zar fun s' hs' => ?_),hpu c p s hcC hp hcn' hps X]
     ·have hne:o.dst≠some s:=quietFit.own hfit hp ho hps (Ne.symm hci);rw[Aj,Aj,qat,if_neg hne]
     ·rw[qat,if_neg (qag hLc.tail hs' (by rw[List.mem_range'_1];omega) ho)]
    ·rw[jaN,show ops.size-(i+1)=m by omega];have e2:(⟨((⟨T,a.defers⟩:Act).put o.dst v).tmps,a.defers⟩:Act)=(⟨T,a.defers⟩:Act).put o.dst v:=by unfold Act.put;split<;>rfl
     rw[e2];exact h'
   cases hr:(execOp a.eval o).run P W with
   | halt x W' =>
    rw[hr]at hwp
    cases x<;>exact hwp.elim
   | ok nx W' =>
    rw[hr]at hwp;rcases vbI hT.simple hr with rfl|⟨v,rfl⟩
    ·rw[Oper.upon_skip]at hwp ⊢;exact key _ _ hwp
    ·rw[Oper.upon_value]at hwp ⊢;exact key _ _ hwp
theorem zau{P:Program}{ops:Array Oper}{Q:Exit->Act->World->Prop}{n N:Nat}{C:List Nat}{J:Array Bool->Act->World->Prop}(hn:n<=ops.size)(hwait:∀ i (o:Oper),n<=i->ops[i]? = some o->∀ j,j<i->j ∉ C->zO ops ops.size o j=true)(hls:∀ listed a W,J listed a W->listed.size=ops.size)(hcl:∀ listed a W,J listed a W->yad ops listed)
  (hstep:∀ listed a W i (o:Oper),J listed a W->(∀ j,n<=j->listed.getD j false=false)->i<n->ops[i]? = some o->listed.getD i false=false->(∀ e∈o.after,Region.binds .any e=true->listed.getD e.on false=true)->wpOp P ops Q i (J (listed.setIfInBounds i true)) a W)
  (hdone:∀ fuel listed a W,J listed a W->(∀ j,n<=j->listed.getD j false=false)->(∀ j,j<n->j ∉ C->listed.getD j false=true)->listed.toList.count false<=fuel->wpAny P .any ops Q fuel listed a W) (hfit:quietFit ops N=true) :
  ∀(fuel:Nat) (listed:Array Bool) (a:Act) (W:World),J listed a W->(∀ i,n<=i->listed.getD i false=false)->(listed.toList.count false<=fuel)->wpAny P .any ops Q fuel listed a W:=by
 intro fuel
 induction fuel with
 | zero =>
  intro listed a W hJ h2 hc;refine hdone 0 listed a W hJ h2 (fun i hi _ => ?_) hc;rcases hcc:listed.getD i false with _|_
  ·exfalso;have hlt:i<listed.size:=by rw[hls _ _ _ hJ];omega
   rw[Aj,AK hlt]at hcc;have:false∈listed.toList:=by
    have h3:listed[i]=false:=hcc;rw[<- h3];simp
   have:=BI.2 this;omega
  ·rfl
 | succ fuel ih =>
  intro listed a W hJ h2 hc;by_cases h1:∀ i,i<n->i ∉ C->listed.getD i false=true
  ·exact hdone _ listed a W hJ h2 h1 hc
  ·have key:∀ i∈Region.ready .any ops listed,i<n:=by
    intro i hi;rcases AJ i n with h|h
    ·exact h
    ·exfalso;refine h1 fun j hj hjC => ?_
     obtain⟨_,o,ho,hdep⟩:=mem_ready.1 hi;exact yx (hcl _ _ _ hJ) ops.size o j hdep (hwait i o h ho j oo hjC)
   refine⟨fun hr => ?_,fun i hi => ?_⟩
   ·exfalso;refine h1 fun i hi hiC => ?_
    clear hiC
    induction i using Nat.strongRecOn with
    | _ i ih2 =>
     rcases hcc:listed.getD i false with _|_
     ·exfalso;have hm:i∈Region.ready .any ops listed:=by
       refine mem_ready.2 ⟨?_,ops[i]'oo,by simp[show i<ops.size by omega],fun e he hb => ?_⟩
       ·rw[Aj]at hcc ⊢;have:i<listed.size:=by rw[hls _ _ _ hJ];omega
        rw[AK this]at hcc ⊢;exact hcc
       ·have h3:=quietFit.edge hfit (i:=i) (o:=ops[i]'oo) (by simp[show i<ops.size by omega]) he hb;exact ih2 e.on h3 oo
      rw[hr]at hm;cases hm
     ·rfl
   ·have hin:=key i hi;have hnl:=qw hi (hls _ _ _ hJ);obtain⟨h4,o,ho,hdep⟩:=mem_ready.1 hi;refine wpOp_mono (fun a' W' hJ'=>ih _ a' W' hJ' (fun j hj => ?_) ?_) (hstep listed a W i o hJ h2 hin ho hnl hdep)
    ·have:=h2 j hj;rw[Aj]at this ⊢;rw[AL oo];exact this
    ·have hlt:i<listed.size:=by rw[hls _ _ _ hJ];exact(Ag.1 ho).1
     rw[Aj,AK hlt]at h4;have h5:listed.toList[i]'(by simpa using hlt)=false:=by simpa using h4
     rw[Cg];have h6:=DR (l:=listed.toList) (a:=true) (b:=false) (i:=i) (by simpa using hlt);have h7:0<listed.toList.count false:=BI.2 (by rw[<- h5];exact CK _);rw[h6,h5];show List.count false listed.toList-1+0<=fuel;omega
theorem qaD{ops:Array Oper}{N:Nat}(hfit:quietFit ops N=true){f:Nat->Bool}{V:Nat->Value}{A:Array Value}(hA:A.size=N):∀ D:List Nat,∃ T:Array Value,T.size=N/\(∀ t,(∀ c (o:Oper),c∈D->ops[c]? = some o->f c=false->o.dst≠some t)->T[t]? = A[t]?)/\∀ c (o:Oper) t,c∈D->ops[c]? = some o->f c=false->o.dst=some t->T.getD t undef=V c
 | []=>⟨A,hA,fun _ _=>rfl,fun c _ _ h=>by cases h⟩
 | d :: D=>by
  obtain⟨T,hT,h1,h2⟩:=qaD hfit (f:=f) (V:=V) hA D
  cases hf:f d with
  | true =>
   refine⟨T,hT,fun t ht=>h1 t fun c o hc ho hn=>ht c o (Bx _ hc) ho hn,fun c o t hc ho hn hd => ?_⟩;rcases Bd.1 hc with rfl|hc
   ·rw[hf]at hn;cases hn
   ·exact h2 c o t hc ho hn hd
  | false =>
   cases hop:ops[d]? with
   | none =>
    refine⟨T,hT,fun t ht=>h1 t fun c o hc ho hn=>ht c o (Bx _ hc) ho hn,fun c o t hc ho hn hd => ?_⟩;rcases Bd.1 hc with rfl|hc
    ·rw[hop]at ho;cases ho
    ·exact h2 c o t hc ho hn hd
   | some p =>
    cases hpd:p.dst with
    | none =>
     refine⟨T,hT,fun t ht=>h1 t fun c o hc ho hn=>ht c o (Bx _ hc) ho hn,fun c o t hc ho hn hd => ?_⟩;rcases Bd.1 hc with rfl|hc
     ·rw[hop]at ho;cases ho;rw[hpd]at hd;cases hd
     ·exact h2 c o t hc ho hn hd
    | some s =>
     have hs:s<N:=quietFit.lt hfit hop hpd;refine⟨T.setIfInBounds s (V d),by simpa using hT,fun t ht => ?_,fun c o t hc ho hn hd => ?_⟩
     ·have:s≠t:=fun e=>ht d p CN hop hf (by rw[hpd,e])
      rw[AL this];exact h1 t fun c o hc ho hn=>ht c o (Bx _ hc) ho hn
     ·by_cases hcd:c=d
      ·subst hcd;rw[hop]at ho;cases ho;rw[hpd]at hd;cases hd;rw[Aj,Bg,if_pos (Nat.lt_of_lt_of_eq hs hT.symm)];rfl
      ·have hne:s≠t:=fun e=>quietFit.own hfit hop ho hpd hcd (by rw[hd,e])
       rw[Aj,AL hne,<- Aj];exact h2 c o t ((Bd.1 hc).resolve_left hcd) ho hn hd
def kcI(items:List QItem)(c:Nat):Value:=match items[c]? with|some (.val v)=>v|_=>undef
def jbX(items:List QItem)(c:Nat):Bool:=match items[c]? with|some (.val _)=>true|_=>false
theorem vaT{items:List QItem}{c:Nat}(h:jbX items c=true){v:Value}{W:World}:kg items c v W↔v=kcI items c:=by
 unfold jbX at h;unfold kg kcI
 cases hi:items[c]? with
 | none=>rw[hi]at h;cases h
 | some q =>
  cases q with
  | val u=>exact Iff.rfl
  | say S=>rw[hi]at h;cases h
theorem yq{P:Program}{ops:Array Oper}{Q:Exit->Act->World->Prop}{id:Nat}{tmps:Array Value}{ds:List Deferred}{w:World}(n:Nat)(C:List Nat)(items:List QItem)(L:List Nat)(hm:P.follows .mixedOrders=true)
  (htail:(qas ops n C&&quietFit ops tmps.size&&decide (n<=ops.size)&&decide ((ops.toList.take n).length=items.length))=true) (hC:(C.all (jbX items))=true) (hL:zK (ops.toList.take n)=L) (hmono:itemsMono items) (hall:allItems P ops (ops.toList.take n) items tmps w (ops.toList.take n) items)
  (hdone:∀ W,Aa w W->je W (fun T=>za0 L T->wpList P ops (yg Q) (ops.toList.drop n) ⟨T,ds⟩ W) (ops.toList.take n) items tmps):(Code.region id ops true).wp P Q ⟨tmps,ds⟩ w:=by
 simp only[AV,decide_eq_true_eq]at htail;obtain⟨⟨⟨h1,hfit⟩,hn⟩,hlen⟩:=htail;rw[Be]at hC;have e:∀ a W,wpOps P ops (yg Q) (List.range' n (ops.size-n)) a W=wpList P ops (yg Q) (ops.toList.drop n) a W:=fun a W=>by
  have h:=wpOps_eq_wpList (P:=P) (ops:=ops) (Q:=yg Q) (ops.toList.drop n) n (fun j=>by rw[DK];simp);rw[CL,Cl]at h;rw[h]
 have hallq:allQuiet P ops (ops.toList.take n) (kg items) tmps w 0 (ops.toList.take n):=allItems.quiet _ _ 0 hall (fun i=>by simp);have hq:∀ i (o:Oper),i<n->ops[i]? = some o->kU P ops (ops.toList.take n) (kg items) tmps w i o:=fun i o hi ho=>by
  have:=allQuiet.get (ops.toList.take n) 0 hallq i o (by rw[AW,if_pos hi];simpa using ho)
  rwa[Bj]at this
 have hin:∀(listed:Array Bool),(∀ j,n<=j->listed.getD j false=false)->∀ j (p:Oper),ops[j]? = some p->listed.getD j false=true->p∈ops.toList.take n:=by
  intro listed h2 j p hp hl;have hjn:j<n:=by
   rcases AJ j n with h|h
   ·exact h
   ·rw[h2 j h]at hl;cases hl
  refine Bk (i:=j) ?_;rw[AW,if_pos hjn];simpa using hp
 refine wp_region_any hm (zau (J:=fun listed a W=>QuietAt ops (kg items) tmps ds w listed a W/\ApartAt ops listed a W/\yad ops listed) (C:=C) hn (fun i o hi ho=>(zaa h1 hi ho).wait) (fun listed a W h=>h.1.lsize) (fun listed a W h=>h.2.2) ?_ ?_ hfit ops.size _ _ _ ⟨⟨Below.drew (Au _ _),rfl,rfl,by simp,?_,fun _ _=>rfl⟩,⟨?_,?_⟩,?_⟩ (fun i _ => ?_) ?_)
 ·intro listed a W i o hJ h2 hi ho hni hdep;exact wpOp_mono (fun a' W' h=>⟨h.1,h.2,zB hJ.2.2 ho hdep⟩) (qL hmono.get hfit (hq i o hi ho) (hin listed h2) ho hJ.1 hJ.2.1 hni hdep)
 ·intro fuel listed a W hJ h2 h3 hc;obtain⟨T,hT,hfill,hval⟩:=qaD hfit (f:=fun c=>listed.getD c false) (V:=kcI items) hJ.1.size C;refine ybK hfit h1 fuel listed a W n T (Am _) hn hJ.1.lsize hJ.2.2 h3 h2 hJ.1.size hT (fun t ht=>(hfill t ht).symm) (fun c o t hcC ho hcn hd X => ?_) hc ?_
  ·have hLc:=zw h1 hcC ho;have hob:=hq c o hLc.lt ho a.eval W hJ.1.below (fun _=>rfl) (fun _=>rfl) (fun _=>rfl)
    (fun t ht=>by rw[vw,Aj,Aj,hJ.1.same t (fun j p hp hl=>qx ht (hin listed h2 j p hp hl))])
    (jL _ fun e he hb p t hp ht=>hJ.1.done e.on p t hp ht (by
     have he':e∈o.after:=by simpa using he
     refine h3 e.on ?_ ?_
     ·exact BY (quietFit.edge hfit ho he' hb) hLc.lt
     ·intro hC';have:=hLc.free _ hC';have h9:waits o e.on=true:=DJ.2 ⟨e,he',by simp[hb]⟩;rw[h9]at this;cases this))
   rw[if_pos (by simp[Region.wanted,kQ (jK hLc.pure_)])]at hob
   cases hr:(execOp a.eval o).run P W with
   | halt x W'=>rw[hr]at hob;exact hob.elim
   | ok nx W' =>
    obtain⟨v,rfl,hX⟩:=qco hLc.pure_ hr;rw[hr]at hob;have hv:=(vaT (hC c hcC)).1 hob.1;rw[hX X,hval c o t hcC ho hcn hd,hv]
  ·rw[e,hJ.1.defers];have hqd:=jF (items:=items) (K:=fun T W=>za0 L T->wpList P ops (yg Q) (ops.toList.drop n) ⟨T,ds⟩ W) (ops.toList.take n) items 0 tmps hlen (fun i=>by simp) (hdone W hJ.1.below);have hsame:∀ i (o:Oper) t,i<n->ops[i]? = some o->o.dst=some t->listed.getD i false=true->T[t]? = a.tmps[t]? := fun i o t hi ho ht hl=>hfill t fun c p hcC hp hcn=>by
    have hci:c≠i:=fun e=>by subst e;rw[hl]at hcn;cases hcn
    exact quietFit.own hfit ho hp ht hci
   have h4:=jx T (ops.toList.take n) 0 tmps hqd (by rw[hT]) (fun i o t ho ht=>by
    rw[Bj];rw[AW]at ho;split at ho
    ·rename_i hi;have ho':ops[i]? = some o:=by simpa using ho
     rcases hl:listed.getD i false with _|_
     ·have hiC:i∈C:=by
       rcases Decidable.em (i∈C)with h|h
       ·exact h
       ·have:=h3 i hi h;rw[hl]at this;cases this
      exact(vaT (hC i hiC)).2 (hval i o t hiC ho' hl ht)
     ·have:=hJ.1.done i o t ho' ht hl;rw[Aj,hsame i o t hi ho' ht hl,<- Aj];exact this
    ·cases ho) (fun t ht=>by
     have h5:=hJ.1.same t (fun j p hp hl=>qx ht (hin listed h2 j p hp hl));rw[<- h5];refine hfill t fun c p hcC hp hcn => ?_
     have hLc:=zw h1 hcC hp;refine qx ht (Bk (i:=c) ?_);rw[AW,if_pos hLc.lt];simpa using hp)
   refine h4 ?_;rw[<- hL];refine yax fun i j o p t s ho hp hno hnp ht hs hne => ?_
   rw[AW]at ho hp;split at ho
   ·rename_i hi;split at hp
    ·rename_i hj;have ho':ops[i]? = some o:=by simpa using ho
     have hp':ops[j]? = some p:=by simpa using hp
     have nl:∀ c (q:Oper),ops[c]? = some q->yZ q=true->c<n->listed.getD c false=true:=fun c q hq' hnq hc'=>by
      refine h3 c hc' fun hcC => ?_
      have hLc:=(zw h1 hcC hq').pure_;unfold yZ at hnq;unfold vaD at hLc;rw[AV]at hnq hLc;have a1:=hnq.1;have a2:=hLc.1
      cases hqo:q.op<;>simp[hqo]at a1 a2
     have li:=nl i o ho' hno hi;have lj:=nl j p hp' hnp hj;rw[Aj,Aj,hsame i o t hi ho' ht li,hsame j p s hj hp' hs lj,<- Aj,<- Aj];exact hJ.2.1.apart i j o p t s ho' hp' hno hnp ht hs hne li lj
    ·cases hp
   ·cases ho
 ·intro i o t _ _ h;rw[Aj]at h;by_cases hi:i<ops.size<;>simp[hi]at h
 ·intro i o t _ _ _ h;rw[Aj]at h;by_cases hi:i<ops.size<;>simp[hi]at h
 ·intro i j o p t s _ _ _ _ _ _ _ h;rw[Aj]at h;by_cases hi:i<ops.size<;>simp[hi]at h
 ·intro i o _ h;rw[Aj]at h;by_cases hi:i<ops.size<;>simp[hi]at h
 ·rw[Aj];by_cases hi:i<ops.size<;>simp[hi]
 ·simp
def zao(ops:Array Oper)(n:Nat):Bool :=
 (List.range' n (ops.size-n)).all fun i=>match ops[i]? with|some o=>(List.range i).all fun j=>zO ops ops.size o j|none=>false
theorem kV{ops:Array Oper}{n:Nat}(h:zao ops n=true){i:Nat}{o:Oper}(hi:n<=i)(ho:ops[i]? = some o){j:Nat}(hj:j<i):zO ops ops.size o j=true:=by
 unfold zao at h;rw[Be]at h;have hlt:=(Ag.1 ho).1;have h1:=h i (by rw[List.mem_range'_1];omega);rw[ho]at h1;simp only[Be]at h1;exact h1 j (BB.2 hj)
theorem qau{P:Program}{ops:Array Oper}{Q:Exit->Act->World->Prop}{n N:Nat}(hfit:quietFit ops N=true)(htail:zao ops n=true) :
  ∀(m k fuel:Nat) (listed:Array Bool) (a:Act) (W:World),n<=k->k+m=ops.size->listed.size=ops.size->yad ops listed->(∀ i,i<k->listed.getD i false=true)->(∀ i,k<=i->listed.getD i false=false)->m<=fuel ->
   wpOps P ops Q (List.range' k m) a W->wpAny P .any ops Q fuel listed a W
 | 0,k,fuel,listed,a,W,hn,hk,hs,hc,h1,h2,hf,h=>by
  have hr:Region.ready .any ops listed=[]:=by
   rw[Cs];intro i hi;have h3:=qw hi hs;obtain⟨_,o,ho,_⟩:=mem_ready.1 hi;have:=h1 i (by have:=(Ag.1 ho).1;omega);rw[h3]at this;cases this
  cases fuel with
  | zero=>exact⟨hr,h⟩
  | succ f=>exact⟨fun _=>h,fun i hi=>(by rw[hr]at hi;cases hi)⟩
 | m+1,k,fuel,listed,a,W,hn,hk,hs,hc,h1,h2,hf,h=>by
  obtain⟨f,rfl⟩:∃ f,fuel=f+1:=⟨fuel-1,oo⟩
  have ho:ops[k]? = some (ops[k]'oo):=by simp[show k<ops.size by omega]
  have hm:k∈Region.ready .any ops listed:=by
   refine mem_ready.2 ⟨?_,_,ho,fun e he hb=>h1 _ (quietFit.edge hfit ho he hb)⟩;have:=h2 k (Am _);rw[Aj]at this ⊢;have hlt:k<listed.size:=oo
   rw[AK hlt]at this ⊢;exact this
  refine⟨fun hr=>(by rw[hr]at hm;cases hm),fun i hi => ?_⟩;obtain⟨_,o,ho',hdep⟩:=mem_ready.1 hi;have hik:i=k:=by
   rcases Cf i k with hlt|he|hgt
   ·have:=h1 i hlt;rw[qw hi hs]at this;cases this
   ·exact he
   ·have:=yx hc ops.size o k hdep (kV htail oo ho' hgt);rw[h2 k (Am _)]at this;cases this
  subst hik;rw[Ea,wpOps_cons]at h;refine wpOp_mono (fun a' W' h'=>qau hfit htail m (i+1) f _ a' W' oo oo (by rw[BL];exact hs) (zB hc ho' hdep) (fun j hj => ?_) (fun j hj => ?_) oo h') h
  ·by_cases hji:j=i
   ·subst hji;exact qD oo
   ·exact qu (h1 j oo)
  ·have:=h2 j oo;rw[Aj]at this ⊢;rw[AL oo];exact this
theorem jj{P:Program}{ops:Array Oper}{Q:Exit->Act->World->Prop}{id:Nat}{tmps:Array Value}{ds:List Deferred}{w:World}(n:Nat)(items:List QItem)(L:List Nat)(hm:P.follows .mixedOrders=true)
  (htail:(zao ops n&&quietFit ops tmps.size&&decide (n<=ops.size)&&decide ((ops.toList.take n).length=items.length))=true) (hL:zK (ops.toList.take n)=L) (hmono:itemsMono items) (hall:allItems P ops (ops.toList.take n) items tmps w (ops.toList.take n) items)
  (hdone:∀ W,Aa w W->je W (fun T=>za0 L T->wpList P ops Q (ops.toList.drop n) ⟨T,ds⟩ W) (ops.toList.take n) items tmps):(Code.region id ops true).wp P Q ⟨tmps,ds⟩ w:=by
 simp only[AV,decide_eq_true_eq]at htail;obtain⟨⟨⟨h1,hfit⟩,hn⟩,hlen⟩:=htail;have e:∀ a W,wpOps P ops Q (List.range' n (ops.size-n)) a W=wpList P ops Q (ops.toList.drop n) a W:=fun a W=>by
  have h:=wpOps_eq_wpList (P:=P) (ops:=ops) (Q:=Q) (ops.toList.drop n) n (fun j=>by rw[DK];simp);rw[CL,Cl]at h;rw[h]
 have hallq:allQuiet P ops (ops.toList.take n) (kg items) tmps w 0 (ops.toList.take n):=allItems.quiet _ _ 0 hall (fun i=>by simp);have hin:∀(listed:Array Bool),(∀ j,n<=j->listed.getD j false=false)->∀ j (p:Oper),ops[j]? = some p->listed.getD j false=true->p∈ops.toList.take n:=by
  intro listed h2 j p hp hl;have hjn:j<n:=by
   rcases AJ j n with h|h
   ·exact h
   ·rw[h2 j h]at hl;cases hl
  refine Bk (i:=j) ?_;rw[AW,if_pos hjn];simpa using hp
 refine wp_region_any hm (zau (J:=fun listed a W=>QuietAt ops (kg items) tmps ds w listed a W/\ApartAt ops listed a W/\yad ops listed) (C:=[]) hn (fun i o hi ho j hj _=>kV h1 hi ho hj) (fun listed a W h=>h.1.lsize) (fun listed a W h=>h.2.2) ?_ ?_ hfit ops.size _ _ _ ⟨⟨Below.drew (Au _ _),rfl,rfl,by simp,?_,fun _ _=>rfl⟩,⟨?_,?_⟩,?_⟩ (fun i _ => ?_) ?_)
 ·intro listed a W i o hJ h2 hi ho hni hdep;refine wpOp_mono (fun a' W' h=>⟨h.1,h.2,zB hJ.2.2 ho hdep⟩) (qL hmono.get hfit ?_ (hin listed h2) ho hJ.1 hJ.2.1 hni hdep);have:=allQuiet.get (ops.toList.take n) 0 hallq i o (by rw[AW,if_pos hi];simpa using ho)
  rwa[Bj]at this
 ·intro fuel listed a W hJ h2 h3 hc;have h3':∀ j,j<n->listed.getD j false=true:=fun j hj=>h3 j hj (by simp)
  refine qau hfit h1 (ops.size-n) n fuel listed a W (Am _) oo hJ.1.lsize hJ.2.2 h3' h2 ?_ ?_
  ·refine Bb ?_ hc;have e2:listed.toList=listed.toList.take n++List.replicate (ops.size-n) false:=by
    apply List.ext_getElem?;intro i;have hsz:=hJ.1.lsize;rcases AJ i n with hi|hi
    ·rw[BS (by simp;omega),AW,if_pos hi]
    ·rw[CM (by simp;omega)];have hl:(listed.toList.take n).length=n:=by simp;omega
     rw[hl,CY];have:=h2 i hi;rw[Aj]at this;split
     ·rename_i hlt;have hlt':i<listed.size:=oo
      rw[AK hlt']at this;simp at this;simp[hlt',this]
     ·rename_i hge;simp;omega
   rw[e2,List.count_append,List.count_replicate];simp
  ·rw[e];have hq:=jF (items:=items) (K:=fun T W=>za0 L T->wpList P ops Q (ops.toList.drop n) ⟨T,ds⟩ W) (ops.toList.take n) items 0 tmps hlen (fun i=>by simp) (hdone W hJ.1.below);have h4:=jx a.tmps (ops.toList.take n) 0 tmps hq hJ.1.size.symm (fun i o t ho ht=>by
    rw[Bj];rw[AW]at ho;split at ho
    ·rename_i hi;exact hJ.1.done i o t (by simpa using ho) ht (h3' i hi)
    ·cases ho) (fun t ht=>hJ.1.same t (fun j p hp hl=>qx ht (hin listed h2 j p hp hl)))
   have:a=⟨a.tmps,ds⟩:=by rw[<- hJ.1.defers]
   rw[this];refine h4 ?_;rw[<- hL];refine yax fun i j o p t s ho hp hno hnp ht hs hne => ?_
   rw[AW]at ho hp;split at ho
   ·rename_i hi;split at hp
    ·rename_i hj;exact hJ.2.1.apart i j o p t s (by simpa using ho) (by simpa using hp) hno hnp ht hs hne (h3' i hi) (h3' j hj)
    ·cases hp
   ·cases ho
 ·intro i o t _ _ h;rw[Aj]at h;by_cases hi:i<ops.size<;>simp[hi]at h
 ·intro i o t _ _ _ h;rw[Aj]at h;by_cases hi:i<ops.size<;>simp[hi]at h
 ·intro i j o p t s _ _ _ _ _ _ _ h;rw[Aj]at h;by_cases hi:i<ops.size<;>simp[hi]at h
 ·intro i o _ h;rw[Aj]at h;by_cases hi:i<ops.size<;>simp[hi]at h
 ·rw[Aj];by_cases hi:i<ops.size<;>simp[hi]
 ·simp
def vbU(P:Program)(F:Ending->World->Prop):Result Next->Prop
 | .ok (.enter f args) w'=>Calls P f args w' F
 | _=>False
def ybU(P:Program)(ops:Array Oper)(items:List QItem)(tmps:Array Value)(w:World)(o:Oper)(F:Ending->World->Prop):Prop :=
 ∀(ρ:Operand->Value) (W:World),Aa w W->(∀ v,ρ (.const v)=v)->(∀ g,ρ (.global g)=.pointer (some ⟨g,0,none⟩))->(∀ f,ρ (.func f)=.func (.func f) #[] #[]) ->
  (∀ t,vg ops.toList t=true->ρ (.tmp t)=tmps.getD t undef)->qj ops (kg items) ρ W o.after.toList ->
  Region.wanted o (jf ops ρ)=true/\vbU P F ((execOp ρ o).run P W)
def itemsBut(P:Program)(ops:Array Oper)(items:List QItem)(tmps:Array Value)(w:World):List Bool->List Oper->List QItem->Prop
 | true :: bs,o :: l,q :: qs=>qaE P ops ops.toList items tmps w o q/\itemsBut P ops items tmps w bs l qs
 | false :: bs,o :: l,q :: qs=>itemsBut P ops items tmps w bs l qs
 | [],[],[]=>True
 | _,_,_=>False
theorem itemsBut.get{P:Program}{ops:Array Oper}{items:List QItem}{tmps:Array Value}{w:World}:∀(bs:List Bool) (l:List Oper) (qs:List QItem),itemsBut P ops items tmps w bs l qs->∀(i:Nat) (o:Oper),l[i]? = some o->bs[i]? = some true->∃ q,qs[i]? = some q/\qaE P ops ops.toList items tmps w o q
 | true :: bs,o :: l,q :: qs,h,0,p,h1,_=>by
  simp at h1;subst h1;exact⟨q,rfl,h.1⟩
 | true :: bs,o :: l,q :: qs,h,i+1,p,h1,h2=>by
  simpa using itemsBut.get bs l qs h.2 i p (by simpa using h1) (by simpa using h2)
 | false :: bs,o :: l,q :: qs,h,0,p,_,h2=>by simp at h2
 | false :: bs,o :: l,q :: qs,h,i+1,p,h1,h2=>by
  simpa using itemsBut.get bs l qs h i p (by simpa using h1) (by simpa using h2)
 | [],[],[],_,i,p,h1,_=>by simp at h1
 | [],_ :: _,_,h,_,_,_,_=>h.elim
 | true :: _,[],_,h,_,_,h1,_=>by simp at h1
 | false :: _,[],_,h,_,_,h1,_=>by simp at h1
 | true :: _,_ :: _,[],h,_,_,_,_=>h.elim
 | false :: _,_ :: _,[],h,_,_,_,_=>h.elim
 | [],[],_ :: _,h,_,_,_,_=>h.elim
theorem bC{P:Program}{ops:Array Oper}{items:List QItem}{tmps:Array Value}{w:World}{bs:List Bool}{o:Oper}{l:List Oper}{q:QItem}{qs:List QItem}(h:qaE P ops ops.toList items tmps w o q)(h':itemsBut P ops items tmps w bs l qs):itemsBut P ops items tmps w (true :: bs) (o :: l) (q :: qs):=⟨h,h'⟩
theorem bS9{P:Program}{ops:Array Oper}{items:List QItem}{tmps:Array Value}{w:World}{bs:List Bool}{o:Oper}{l:List Oper}{q:QItem}{qs:List QItem}(h':itemsBut P ops items tmps w bs l qs):itemsBut P ops items tmps w (false :: bs) (o :: l) (q :: qs):=h'
theorem qbp{P:Program}{ops:Array Oper}{Q:Exit->Act->World->Prop}{N k:Nat}{J:Array Bool->Act->World->Prop}(hk:k<ops.size)(hls:∀ listed a W,J listed a W->listed.size=ops.size)
  (hstep:∀ listed a W i (o:Oper),J listed a W->listed.getD k false=false->ops[i]? = some o->(∀ e∈o.after,Region.binds .any e=true->listed.getD e.on false=true)->wpOp P ops Q i (fun a W=>i≠k/\J (listed.setIfInBounds i true) a W) a W) (hfit:quietFit ops N=true) :
  ∀(fuel:Nat) (listed:Array Bool) (a:Act) (W:World),J listed a W->listed.getD k false=false->(listed.toList.count false<=fuel)->wpAny P .any ops Q fuel listed a W:=by
 intro fuel
 induction fuel with
 | zero =>
  intro listed a W hJ h2 hc;exfalso;have hlt:k<listed.size:=by rw[hls _ _ _ hJ];exact hk
  rw[Aj,AK hlt]at h2;have:false∈listed.toList:=by
   have h3:listed[k]=false:=h2;rw[<- h3];simp
  have:=BI.2 this;omega
 | succ fuel ih =>
  intro listed a W hJ h2 hc;refine⟨fun hr => ?_,fun i hi => ?_⟩
  ·exfalso;have key:∀ i,i<=k->listed.getD i false=true:=by
    intro i
    induction i using Nat.strongRecOn with
    | _ i ih2 =>
     intro hik;rcases hcc:listed.getD i false with _|_
     ·exfalso;have hm:i∈Region.ready .any ops listed:=by
       refine mem_ready.2 ⟨?_,ops[i]'oo,by simp[show i<ops.size by omega],fun e he hb => ?_⟩
       ·rw[Aj]at hcc ⊢;have:i<listed.size:=by rw[hls _ _ _ hJ];omega
        rw[AK this]at hcc ⊢;exact hcc
       ·have h3:=quietFit.edge hfit (i:=i) (o:=ops[i]'oo) (by simp[show i<ops.size by omega]) he hb;exact ih2 e.on h3 oo
      rw[hr]at hm;cases hm
     ·rfl
   rw[key k (Am _)]at h2;cases h2
  ·have hnl:=qw hi (hls _ _ _ hJ);obtain⟨h4,o,ho,hdep⟩:=mem_ready.1 hi;refine wpOp_mono (fun a' W' hJ'=>ih _ a' W' hJ'.2 ?_ ?_) (hstep listed a W i o hJ h2 ho hdep)
   ·rw[Aj]at h2 ⊢;rw[AL hJ'.1];exact h2
   ·have hlt:i<listed.size:=by rw[hls _ _ _ hJ];exact(Ag.1 ho).1
    rw[Aj,AK hlt]at h4;have h5:listed.toList[i]'(by simpa using hlt)=false:=by simpa using h4
    rw[Cg];have h6:=DR (l:=listed.toList) (a:=true) (b:=false) (i:=i) (by simpa using hlt);have h7:0<listed.toList.count false:=BI.2 (by rw[<- h5];exact CK _);rw[h6,h5];show List.count false listed.toList-1+0<=fuel;omega
def kbU(ops:Array Oper)(k:Nat)(bs:List Bool):Bool :=
 decide (k<ops.size)&&decide (bs.length=ops.size)&&(List.range ops.size).all fun i=>bs.getD i false&&decide (i≠k)||decide (i=k)||(match ops[i]? with|some o=>zO ops ops.size o k|none=>true)
theorem ye{P:Program}{ops:Array Oper}{Q:Exit->Act->World->Prop}{id:Nat}{tmps:Array Value}{ds:List Deferred}{w:World}(k:Nat)(bs:List Bool)(items:List QItem)(F:Ending->World->Prop)(hm:P.follows .mixedOrders=true)
  (hfit:(kbU ops k bs&&quietFit ops tmps.size)=true) (hmono:itemsMono items) (hall:itemsBut P ops items tmps w bs ops.toList items) (hf:∀ o,ops[k]? = some o->ybU P ops items tmps w o F)
  (hQ:∀ e W,F e W->∃ chain,e=.panicked chain/\∀ a:Act,a.defers=ds->Q (.panic chain) a W):(Code.region id ops true).wp P Q ⟨tmps,ds⟩ w:=by
 simp only[AV]at hfit;obtain⟨hf1,hfit⟩:=hfit;unfold kbU at hf1;simp only[AV,decide_eq_true_eq]at hf1;obtain⟨⟨hk,hbl⟩,hw⟩:=hf1;rw[Be]at hw;refine wp_region_any hm (qbp (N:=tmps.size) (k:=k) (J:=fun l a W=>QuietAt ops (kg items) tmps ds w l a W/\yad ops l) hk (fun _ _ _ h=>h.1.lsize) ?_ hfit ops.size _ _ _ ⟨⟨Below.drew (Au _ _),rfl,rfl,by simp,?_,fun _ _=>rfl⟩,?_⟩ ?_ ?_)
 ·intro listed a W i o hJC hk0 ho hdep;obtain⟨hJ,hC⟩:=hJC;have hi:i<ops.size:=(Ag.1 ho).1;by_cases hik:i=k
  ·subst hik;have hob:=hf o ho a.eval W hJ.below (fun _=>rfl) (fun _=>rfl) (fun _=>rfl)
    (fun t ht=>by rw[vw,Aj,Aj,hJ.same t (fun j p hp hl=>qx ht (by have:=(Ag.1 hp);obtain⟨h1,h2⟩:=this;rw[<- h2];simp))])
    (jL _ fun e he hb p t hp ht=>hJ.done e.on p t hp ht (hdep e (by simpa using he) hb))
   unfold wpOp;rw[ho];simp only;rw[jau,if_pos hob.1];refine .inl ?_;have h2:=hob.2;unfold Oper.wp;generalize (execOp a.eval o).run P W=r at h2 ⊢
   cases r with
   | halt x w'=>exact h2.elim
   | ok n w' =>
    cases n with
    | enter f args =>
     refine Calls.mono h2 fun e w'' h => ?_
     obtain⟨chain,rfl,hq⟩:=hQ _ _ h;exact hq a hJ.defers
    | _=>exact h2.elim
  ·have h1:=hw i (BB.2 hi);simp only[ho,DE,AV,decide_eq_true_eq]at h1;rcases h1 with(⟨h1,_⟩|h1)|h1
   ·have hb:bs[i]? = some true:=by
     rw[Ap]at h1
     cases e:bs[i]? with
     | none=>rw[e]at h1;cases h1
     | some b=>rw[e]at h1;cases b with
      | true=>rfl
      | false=>cases h1
    obtain⟨q,hq,hob⟩:=itemsBut.get _ _ _ hall i o (by simpa using ho) hb;have e:kg items i=q.sp:=by unfold kg;rw[hq]
    refine wpOp_mono (fun a' W' h=>⟨hik,h,zB hC ho hdep⟩) (yP hmono.get hfit (fl:=ops.toList) ?_ (fun j p hp _=>by obtain⟨h1,h2⟩:=Ag.1 hp;rw[<- h2];simp) ho hJ hdep);intro ρ X h1 h2 h3 h4 h5 h6;rw[e];exact hob ρ X h1 h2 h3 h4 h5 h6
   ·exact absurd h1 hik
   ·exfalso;have:=yx hC _ o k hdep h1;rw[hk0]at this;cases this
 ·intro i o t _ _ h;rw[Aj]at h;by_cases hi:i<ops.size<;>simp[hi]at h
 ·intro i o _ h;rw[Aj]at h;by_cases hi:i<ops.size<;>simp[hi]at h
 ·rw[Aj];simp[hk]
 ·simp
theorem qhf{P:Program}{ops:Array Oper}{items:List QItem}{tmps:Array Value}{w:World}{k:Nat}{F:Ending->World->Prop}{o0:Oper}{G:FuncId}{args:Array Value}(e:ops[k]? = some o0)(y:∀ X,Aa w X->Calls P G args X F)(h:(∀ X,Aa w X->Calls P G args X F)->ybU P ops items tmps w o0 F:=by intro y ρ X qX qc qg qf qt qd;simp[qj,kg,QItem.sp,Region.binds]at qd;refine⟨by simp[Region.wanted,jf],?_⟩;simp[execOp,go_sem,vbU,vg,qc,qt,qf,qd];exact y X qX):∀ o,ops[k]? = some o->ybU P ops items tmps w o F:=fun o ho=>by rw[e]at ho;cases ho;exact h y
end Go.Proofs.YtdiecekagiledaaGreatDoor
