/- Package affine: must, and the arithmetic of numbers, where nothing is too. -/
import Derived.Test.YtdiecekagiledaaGreatDoorVEHull
set_option linter.unusedSimpArgs false
set_option linter.unusedVariables false
set_option maxRecDepth 100000
set_option maxHeartbeats 16000000
namespace Go.Proofs.YtdiecekagiledaaGreatDoor
open Go Go.RowKit Go.Lib Go.Shelf Go.Proofs.Tryz
theorem yc2(q:Rat)(w:World):Calls prog 110 #[Q q,.int .i64 0] w (QIs q w):=by
 have hB:=Ab w;unfold QIs Q;go_enter func110,ntmps110;go_wp2_with fail;have d0_o:w.heap.size<=w.heap.size+1:=by have:=hB.size;omega
 have sB:=hB.size;refine za (fun X=>Aa w X/\Row X w.heap.size (oR q)/\Row X (w.heap.size+1) oR0) ⟨BW,RW8,RW8⟩ ?_;clear hB sB;rintro V1⟨hB,rx,ro⟩;have sx:=RF2 rx;have so:=vd ro;refine(vn _).mono ?_;rintro e W2⟨rfl,h1⟩;have stp:=St2 hB h1 rx ro;clear hB h1 rx sx ro so;obtain⟨hB,rx,ro⟩:=stp;have sx:=RF2 rx;have so:=vd ro;go_wp2_with fail;have sB:=hB.size;refine vc (fun X=>Aa w X/\Row X (w.heap.size+1) (oR q)) ⟨BW,RW8⟩ ?_;clear rx sx ro so hB sB;rintro V3⟨hB,ro⟩;have so:=vd ro;refine bodyPost_ret (v:=Ac q) ?res rfl ⟨rfl,hB⟩
 case res=>simp[results,results110,go_sem,so]
theorem kbO{a0 a1:Addr}(u v:ByteArray)(w:World)(he:EnvA a0 a1 w):Calls prog 110 #[.agg #[.string u,.string v],.int .i64 40] w (ji a1 w):=by
 have hB:=Ab w;unfold ji;go_enter func110,ntmps110;go_wp2_with fail;have d0_o:w.heap.size<=w.heap.size+1:=by have:=hB.size;omega
 have sB:=hB.size;refine za (fun X=>Aa w X/\Row X w.heap.size (.cells #[.string u,.string v] 23)/\Row X (w.heap.size+1) oR0) ⟨BW,RW8,RW8⟩ ?_;clear hB sB;rintro V1⟨hB,rx,ro⟩;have sx:=RF2 rx;have so:=vd ro;refine(vz _ (he.below hB)).mono ?_;rintro e W9⟨rfl,h1⟩;exact⟨rfl,rfl,Em hB h1⟩
def NRes(c:Prop)(q:Rat)(a1:Addr)(w:World)(e:Ending)(w':World):Prop:=(c/\QIs q w e w')\/(¬ c/\ji a1 w e w')
theorem NRes.ok{c:Prop}{q:Rat}{a1:Addr}{w w':World}{e:Ending}(h:NRes c q a1 w e w')(hc:c):QIs q w e w':=h.elim (·.2) fun k=>absurd hc k.1
theorem NRes.no{c:Prop}{q:Rat}{a1:Addr}{w w':World}{e:Ending}(h:NRes c q a1 w e w')(hc:¬ c):ji a1 w e w':=h.elim (fun k=>absurd k.1 hc) (·.2)
theorem qbq{a0 a1:Addr}{c:Prop}{q:Rat}{u v:ByteArray}{z:Int}(ho:Out c q u v z)(w:World)(hf:¬ c->EnvA a0 a1 w):Calls prog 110 #[.agg #[.string u,.string v],.int .i64 z] w (NRes c q a1 w):=by
 rcases ho with⟨hc,rfl,rfl,rfl⟩|⟨hc,rfl,rfl,rfl⟩
 ·exact(yc2 q w).mono fun _ _ k=>.inl ⟨hc,k⟩
 ·exact(kbO ⟨#[]⟩ ⟨#[]⟩ w (hf hc)).mono fun _ _ k=>.inr ⟨hc,k⟩
theorem vcE{a0 a1:Addr}{a b:Rat}(da:QDig 200 a)(db:QDig 200 b)(w:World)(he:Env w)(hf:¬ AF a b->EnvA a0 a1 w):Calls prog 59 #[Q a,Q b] w (NRes (AF a b) (a+b) a1 w):=by
 have hB:=Ab w;have M:=fun W (H:Env W)=>yc6 da db W H
 have MM:=fun u v z (ho:Out (AF a b) (a+b) u v z) W H=>qbq (a0:=a0) (a1:=a1) ho W H
 unfold QRes at M;unfold NRes QIs ji Q at *;generalize a+b=q at *;generalize AF a b=P at *;clear da db;go_enter func59,ntmps59;go_wp2_with fail;have d0_o:w.heap.size<=w.heap.size+1+1:=by have:=hB.size;omega
 have sB:=hB.size;refine za (fun X=>Aa w X/\Row X (w.heap.size+1+1) oN0) ⟨BW,RW8⟩ ?_;clear hB sB;rintro V1⟨hB,ro⟩;have so:=vd ro;refine(M _ (he.below hB)).mono ?_;rintro e W2⟨u,v,z,ho,rfl,h1⟩;have stp:=St1 hB h1 ro;clear hB h1 ro so;obtain⟨hB,ro⟩:=stp;have so:=vd ro;go_wp2_with fail;refine(MM u v z ho _ (fun k=>(hf k).below hB)).mono ?_;rintro e W3 (⟨hc,rfl,h1⟩|⟨hc,rfl,h1⟩)
 case inr=>exact⟨rfl,.inr ⟨hc,rfl,Em hB h1⟩⟩
 have stp:=St1 hB h1 ro;clear hB h1 ro so;obtain⟨hB,ro⟩:=stp;have so:=vd ro;go_wp2_with fail;have sB:=hB.size;refine vc (fun X=>Aa w X/\Row X (w.heap.size+1+1) (oN q)) ⟨BW,RW8⟩ ?_;clear ro so hB sB;rintro V4⟨hB,ro⟩;have so:=vd ro;refine bodyPost_ret (v:=Ac q) ?res rfl (.inl ⟨hc,rfl,hB⟩)
 case res=>simp[results,results59,go_sem,so]
theorem vac{a0 a1:Addr}{a b:Rat}(da:QDig 200 a)(db:QDig 200 b)(h:¬ AF a b)(w:World)(he:EnvA a0 a1 w):Calls prog 59 #[Q a,Q b] w (ji a1 w):=(vcE (a0:=a0) da db w he.env fun _=>he).mono fun _ _ k=>k.no h
theorem vbu{a b:Rat}(h:AF a b)(w:World)(he:Env w):Calls prog 59 #[Q a,Q b] w (QIs (a+b) w):=(vcE (a0:=⟨0,0,none⟩) (a1:=⟨0,0,none⟩) h.da h.db w he fun k=>absurd h k).mono fun _ _ k=>k.ok h
theorem vcU{a0 a1:Addr}{a b:Rat}(da:QDig 200 a)(db:QDig 200 b)(w:World)(he:Env w)(hf:¬ SF a b->EnvA a0 a1 w):Calls prog 98 #[Q a,Q b] w (NRes (SF a b) (a-b) a1 w):=by
 have hB:=Ab w;have M:=fun W (H:Env W)=>qc7 da db W H
 have MM:=fun u v z (ho:Out (SF a b) (a-b) u v z) W H=>qbq (a0:=a0) (a1:=a1) ho W H
 unfold QRes at M;unfold NRes QIs ji Q at *;generalize a-b=q at *;generalize SF a b=P at *;clear da db;go_enter func98,ntmps98;go_wp2_with fail;have d0_o:w.heap.size<=w.heap.size+1+1:=by have:=hB.size;omega
 have sB:=hB.size;refine za (fun X=>Aa w X/\Row X (w.heap.size+1+1) oN0) ⟨BW,RW8⟩ ?_;clear hB sB;rintro V1⟨hB,ro⟩;have so:=vd ro;refine(M _ (he.below hB)).mono ?_;rintro e W2⟨u,v,z,ho,rfl,h1⟩;have stp:=St1 hB h1 ro;clear hB h1 ro so;obtain⟨hB,ro⟩:=stp;have so:=vd ro;go_wp2_with fail;refine(MM u v z ho _ (fun k=>(hf k).below hB)).mono ?_;rintro e W3 (⟨hc,rfl,h1⟩|⟨hc,rfl,h1⟩)
 case inr=>exact⟨rfl,.inr ⟨hc,rfl,Em hB h1⟩⟩
 have stp:=St1 hB h1 ro;clear hB h1 ro so;obtain⟨hB,ro⟩:=stp;have so:=vd ro;go_wp2_with fail;have sB:=hB.size;refine vc (fun X=>Aa w X/\Row X (w.heap.size+1+1) (oN q)) ⟨BW,RW8⟩ ?_;clear ro so hB sB;rintro V4⟨hB,ro⟩;have so:=vd ro;refine bodyPost_ret (v:=Ac q) ?res rfl (.inl ⟨hc,rfl,hB⟩)
 case res=>simp[results,results98,go_sem,so]
theorem qcn{a0 a1:Addr}{a b:Rat}(da:QDig 200 a)(db:QDig 200 b)(h:¬ SF a b)(w:World)(he:EnvA a0 a1 w):Calls prog 98 #[Q a,Q b] w (ji a1 w):=(vcU (a0:=a0) da db w he.env fun _=>he).mono fun _ _ k=>k.no h
theorem vc5{a b:Rat}(h:SF a b)(w:World)(he:Env w):Calls prog 98 #[Q a,Q b] w (QIs (a-b) w):=(vcU (a0:=⟨0,0,none⟩) (a1:=⟨0,0,none⟩) h.da h.db w he fun k=>absurd h k).mono fun _ _ k=>k.ok h
theorem ycU{a0 a1:Addr}{a b:Rat}(da:QDig 200 a)(db:QDig 200 b)(w:World)(he:Env w)(hf:¬ MF a b->EnvA a0 a1 w):Calls prog 60 #[Q a,Q b] w (NRes (MF a b) (a*b) a1 w):=by
 have hB:=Ab w;have M:=fun W (H:Env W)=>zc7 da db W H
 have MM:=fun u v z (ho:Out (MF a b) (a*b) u v z) W H=>qbq (a0:=a0) (a1:=a1) ho W H
 unfold QRes at M;unfold NRes QIs ji Q at *;generalize a*b=q at *;generalize MF a b=P at *;clear da db;go_enter func60,ntmps60;go_wp2_with fail;have d0_o:w.heap.size<=w.heap.size+1+1:=by have:=hB.size;omega
 have sB:=hB.size;refine za (fun X=>Aa w X/\Row X (w.heap.size+1+1) oN0) ⟨BW,RW8⟩ ?_;clear hB sB;rintro V1⟨hB,ro⟩;have so:=vd ro;refine(M _ (he.below hB)).mono ?_;rintro e W2⟨u,v,z,ho,rfl,h1⟩;have stp:=St1 hB h1 ro;clear hB h1 ro so;obtain⟨hB,ro⟩:=stp;have so:=vd ro;go_wp2_with fail;refine(MM u v z ho _ (fun k=>(hf k).below hB)).mono ?_;rintro e W3 (⟨hc,rfl,h1⟩|⟨hc,rfl,h1⟩)
 case inr=>exact⟨rfl,.inr ⟨hc,rfl,Em hB h1⟩⟩
 have stp:=St1 hB h1 ro;clear hB h1 ro so;obtain⟨hB,ro⟩:=stp;have so:=vd ro;go_wp2_with fail;have sB:=hB.size;refine vc (fun X=>Aa w X/\Row X (w.heap.size+1+1) (oN q)) ⟨BW,RW8⟩ ?_;clear ro so hB sB;rintro V4⟨hB,ro⟩;have so:=vd ro;refine bodyPost_ret (v:=Ac q) ?res rfl (.inl ⟨hc,rfl,hB⟩)
 case res=>simp[results,results60,go_sem,so]
theorem qU{a0 a1:Addr}{a b:Rat}(da:QDig 200 a)(db:QDig 200 b)(h:¬ MF a b)(w:World)(he:EnvA a0 a1 w):Calls prog 60 #[Q a,Q b] w (ji a1 w):=(ycU (a0:=a0) da db w he.env fun _=>he).mono fun _ _ k=>k.no h
theorem zbF{a b:Rat}(h:MF a b)(w:World)(he:Env w):Calls prog 60 #[Q a,Q b] w (QIs (a*b) w):=(ycU (a0:=⟨0,0,none⟩) (a1:=⟨0,0,none⟩) h.da h.db w he fun k=>absurd h k).mono fun _ _ k=>k.ok h
theorem yc5{a0 a1:Addr}{a b:Rat}(da:QDig 200 a)(db:QDig 200 b)(w:World)(he:Env w)(hf:¬ DF a b->EnvA a0 a1 w):Calls prog 72 #[Q a,Q b] w (NRes (DF a b) (a/b) a1 w):=by
 have hB:=Ab w;have M:=fun W (H:Env W)=>vc6 da db W H
 have MM:=fun u v z (ho:Out (DF a b) (a/b) u v z) W H=>qbq (a0:=a0) (a1:=a1) ho W H
 unfold QRes at M;unfold NRes QIs ji Q at *;generalize a/b=q at *;generalize DF a b=P at *;clear da db;go_enter func72,ntmps72;go_wp2_with fail;have d0_o:w.heap.size<=w.heap.size+1+1:=by have:=hB.size;omega
 have sB:=hB.size;refine za (fun X=>Aa w X/\Row X (w.heap.size+1+1) oN0) ⟨BW,RW8⟩ ?_;clear hB sB;rintro V1⟨hB,ro⟩;have so:=vd ro;refine(M _ (he.below hB)).mono ?_;rintro e W2⟨u,v,z,ho,rfl,h1⟩;have stp:=St1 hB h1 ro;clear hB h1 ro so;obtain⟨hB,ro⟩:=stp;have so:=vd ro;go_wp2_with fail;refine(MM u v z ho _ (fun k=>(hf k).below hB)).mono ?_;rintro e W3 (⟨hc,rfl,h1⟩|⟨hc,rfl,h1⟩)
 case inr=>exact⟨rfl,.inr ⟨hc,rfl,Em hB h1⟩⟩
 have stp:=St1 hB h1 ro;clear hB h1 ro so;obtain⟨hB,ro⟩:=stp;have so:=vd ro;go_wp2_with fail;have sB:=hB.size;refine vc (fun X=>Aa w X/\Row X (w.heap.size+1+1) (oN q)) ⟨BW,RW8⟩ ?_;clear ro so hB sB;rintro V4⟨hB,ro⟩;have so:=vd ro;refine bodyPost_ret (v:=Ac q) ?res rfl (.inl ⟨hc,rfl,hB⟩)
 case res=>simp[results,results72,go_sem,so]
theorem vcm{a b:Rat}(h:DF a b)(w:World)(he:Env w):Calls prog 72 #[Q a,Q b] w (QIs (a/b) w):=(yc5 (a0:=⟨0,0,none⟩) (a1:=⟨0,0,none⟩) h.da h.db w he fun k=>absurd h k).mono fun _ _ k=>k.ok h
theorem qA{n:Int}{q:Rat}(hn:jo n)(hq:Rat.divInt n 1=q)(w:World)(he:Env w):Calls prog 33 #[.int .i64 n] w (QIs q w):=by
 have hB:=Ab w;have M:=fun W (H:Env W)=>qof hn (by decide:jo 1) dd W H
 rw[hq]at M;unfold QOk Q at M;unfold QIs Q at *;clear hn hq;go_enter func33,ntmps33;go_wp2_with fail;have d0_o:w.heap.size<=w.heap.size:=by have:=hB.size;omega
 have sB:=hB.size;refine za (fun X=>Aa w X/\Row X w.heap.size oN0) ⟨BW,RW8⟩ ?_;clear hB sB;rintro V1⟨hB,ro⟩;have so:=vd ro;refine(M _ (he.below hB)).mono ?_;rintro e W2⟨rfl,h1⟩;have stp:=St1 hB h1 ro;clear hB h1 ro so;obtain⟨hB,ro⟩:=stp;have so:=vd ro;go_wp2_with fail;have sB:=hB.size;refine vc (fun X=>Aa w X/\Row X w.heap.size (oN q)) ⟨BW,RW8⟩ ?_;clear ro so hB sB;rintro V3⟨hB,ro⟩;have so:=vd ro;refine bodyPost_ret (v:=Ac q) ?res rfl ⟨rfl,hB⟩
 case res=>simp[results,results33,go_sem,so]
theorem zG:Rat.divInt 0 1=0:=by decide +kernel
theorem kaZ:QDig 200 0:=⟨by unfold Dig;decide,by unfold Dig;decide⟩
theorem ja5(x y:ByteArray)(W:World):(Instr.field 66 (.agg #[.string x,.string y]) 0).run prog W=.ok (.agg #[.string x,.string y]) W:=by kernel_rfl
theorem qcS(x y:ByteArray)(W:World):(Instr.field 23 (.agg #[.string x,.string y]) 0).run prog W=.ok (.string x) W:=by kernel_rfl
theorem zaG{a:Rat}(ha:QDig 200 a)(w:World)(he:Env w):Calls prog 46 #[Q a] w (jB (zE a 0) w):=by
 have hB:=Ab w;have FN:=ja5;have M0:=fun W (H:Env W)=>qA (n:=0) dd zG W H
 have M:=fun W (H:Env W)=>kP a 0 ha kaZ W H
 unfold jB at *;unfold QIs at M0;unfold Q at *;generalize zE a 0=c at *;generalize (0:Rat)=z at *;clear ha;go_enter func46,ntmps46;go_wp2_with fail;have sB:=hB.size;refine zi (fun X=>Aa w X/\Row X w.heap.size (oN a)) ⟨BW,RW8⟩ ?_;clear hB sB;rintro V1⟨hB,rx⟩;have sx:=RF2 rx;refine jc [.pointer (some ⟨w.heap.size,0,none⟩),Ac a,Ac z,Ac z,.int .i64 c,.int .i64 c] kr9 kr9 rfl (vC9 qv0 (vC9 (qv1 fun X h=>RF2 (Ae rx h)) (vC9 (qv2 fun X h=>M0 X (he.below (Em hB h))) (vC9 (qvf FN) (vC9 (qv2 fun X h=>M X (he.below (Em hB h))) (vC9 qv0 trivial)))))) ?_;rintro W h1;have stp:=St1 hB h1 rx;clear hB h1 rx sx;obtain⟨hB,rx⟩:=stp;have sx:=RF2 rx;simp only[ve,Ah,Ak,Al];go_wp2;go_ret;exact⟨rfl,hB⟩
theorem zb1{a:Rat}(h:a=0)(w:World)(he:Env w):Calls prog 45 #[Q a] w (qa true w):=by
 have hB:=Ab w;have FN:=ja5;have FR:=qcS;have M0:=fun W (H:Env W)=>qA (n:=0) dd zG W H
 have h2:((S a.num).toList==(S (0:Rat).num).toList)=true:=by subst h;simp
 unfold qa;unfold QIs at M0;unfold Q at *;clear h;generalize (0:Rat)=z at *;go_enter func45,ntmps45;go_wp2_with fail;have sB:=hB.size;refine zi (fun X=>Aa w X/\Row X w.heap.size (oN a)) ⟨BW,RW8⟩ ?_;clear hB sB;rintro V1⟨hB,rx⟩;have sx:=RF2 rx;refine jc [.pointer (some ⟨w.heap.size,0,none⟩),.pointer (some ⟨w.heap.size,0,none⟩),.string (S a.num),Ac z,Ac z,.string (S z.num),.bool true,.bool true] kr9 kr9 rfl (vC9 qv0 (vC9 qv0 (vC9 (qv1 fun X h=>RF2 (Ae rx h)) (vC9 (qv2 fun X h=>M0 X (he.below (Em hB h))) (vC9 (qvf FN) (vC9 (qvf FR) (vC9 (qvf h2) (vC9 qv0 trivial)))))))) ?_;rintro W h1;have stp:=St1 hB h1 rx;clear hB h1 rx sx;obtain⟨hB,rx⟩:=stp;have sx:=RF2 rx;simp only[ve,Ah,Ak,Al];go_wp2;go_ret;exact⟨rfl,hB⟩
theorem kcn{a:Rat}(h:a≠0)(w:World)(he:Env w):Calls prog 45 #[Q a] w (qa false w):=by
 have hB:=Ab w;have FN:=ja5;have FR:=qcS;have M0:=fun W (H:Env W)=>qA (n:=0) dd zG W H
 have h2:((S a.num).toList==(S (0:Rat).num).toList)=false:=vcI (fun e=>h (Dj.1 e));unfold qa;unfold QIs at M0;unfold Q at *;clear h;generalize (0:Rat)=z at *;go_enter func45,ntmps45;go_wp2_with fail;have sB:=hB.size;refine zi (fun X=>Aa w X/\Row X w.heap.size (oN a)) ⟨BW,RW8⟩ ?_;clear hB sB;rintro V1⟨hB,rx⟩;have sx:=RF2 rx;refine jc [.pointer (some ⟨w.heap.size,0,none⟩),.pointer (some ⟨w.heap.size,0,none⟩),.string (S a.num),Ac z,Ac z,.string (S z.num),.bool false,.bool false] kr9 kr9 rfl (vC9 qv0 (vC9 qv0 (vC9 (qv1 fun X h=>RF2 (Ae rx h)) (vC9 (qv2 fun X h=>M0 X (he.below (Em hB h))) (vC9 (qvf FN) (vC9 (qvf FR) (vC9 (qvf h2) (vC9 qv0 trivial)))))))) ?_;rintro W h1;have stp:=St1 hB h1 rx;clear hB h1 rx sx;obtain⟨hB,rx⟩:=stp;have sx:=RF2 rx;simp only[ve,Ah,Ak,Al];go_wp2;go_ret;exact⟨rfl,hB⟩
theorem zc6(a:Rat)(w:World)(he:Env w):Calls prog 45 #[Q a] w (qa (decide (a=0)) w):=by
 by_cases h:a=0
 ·rw[decide_eq_true h];exact zb1 h w he
 ·rw[decide_eq_false h];exact kcn h w he
theorem ycm{a:Rat}(ha:QDig 200 a)(h:0<=a)(w:World)(he:Env w):Calls prog 99 #[Q a] w (QIs (vj a) w):=by
 have hB:=Ab w;have M:=fun W (H:Env W)=>zaG ha W H
 unfold jB at M;have hc:0<=zE a 0:=qE.2 h;rw[kax h];unfold QIs;unfold Q at *;generalize zE a 0=g at *;have hd:decide (g<0)=false:=decide_eq_false oo;clear hc h ha;go_enter func99,ntmps99;go_wp2_with fail;have d0_o:w.heap.size<=w.heap.size+1:=by have:=hB.size;omega
 have sB:=hB.size;refine za (fun X=>Aa w X/\Row X w.heap.size (oN a)/\Row X (w.heap.size+1) oN0) ⟨BW,RW8,RW8⟩ ?_;clear hB sB;rintro V1⟨hB,rx,ro⟩;have sx:=RF2 rx;have so:=vd ro;refine(M _ (he.below hB)).mono ?_;rintro e W2⟨rfl,h1⟩;have stp:=St2 hB h1 rx ro;clear hB h1 rx sx ro so;obtain⟨hB,rx,ro⟩:=stp;have sx:=RF2 rx;have so:=vd ro;go_wp2_with fail;have sB:=hB.size;refine vc (fun X=>Aa w X/\Row X (w.heap.size+1) (oN a)) ⟨BW,RW8⟩ ?_;clear rx sx ro so hB sB;rintro V3⟨hB,ro⟩;have so:=vd ro;refine bodyPost_ret (v:=Ac a) ?res rfl ⟨rfl,hB⟩
 case res=>simp[results,results99,go_sem,so]
theorem kcm{a:Rat}(ha:QDig 200 a)(h:a<0)(w:World)(he:Env w):Calls prog 99 #[Q a] w (QIs (vj a) w):=by
 have hB:=Ab w;have M:=fun W (H:Env W)=>zaG ha W H
 unfold jB at M;have hc:zE a 0<0:=kbe.2 h;have M0:=fun W (H:Env W)=>qA (n:=0) dd zG W H
 have MS:=fun W (H:Env W)=>vc5 (SF.neg ha) W H
 rw[jax h];unfold QIs at M0 MS;unfold QIs;unfold Q at *;generalize zE a 0=g at *;have hd:decide (g<0)=true:=decide_eq_true oo;clear hc h ha;generalize 0-a=y at *;generalize (0:Rat)=z at *;go_enter func99,ntmps99;go_wp2_with fail;have d0_o:w.heap.size<=w.heap.size+1:=by have:=hB.size;omega
 have sB:=hB.size;refine za (fun X=>Aa w X/\Row X w.heap.size (oN a)/\Row X (w.heap.size+1) oN0) ⟨BW,RW8,RW8⟩ ?_;clear hB sB;rintro V1⟨hB,rx,ro⟩;have sx:=RF2 rx;have so:=vd ro;refine(M _ (he.below hB)).mono ?_;rintro e W2⟨rfl,h1⟩;have stp:=St2 hB h1 rx ro;clear hB h1 rx sx ro so;obtain⟨hB,rx,ro⟩:=stp;have sx:=RF2 rx;have so:=vd ro;go_wp2_with fail;refine qe 3 [.val (Ac z),.val (Ac a),.val (Ac y)] kr9 kr9 trivial (iC (qi2 fun X h=>M0 X (he.below (Em hB h))) (iC (qi1 fun X h=>RF2 (Ae rx h)) (iC (qi2 fun X h=>MS X (he.below (Em hB h))) trivial))) ?_;rintro W h1;have stp:=St2 hB h1 rx ro;clear hB h1 rx sx ro so;obtain⟨hB,rx,ro⟩:=stp;have sx:=RF2 rx;have so:=vd ro;simp only[je,Ah,Ak,Al,AB,AI,AC,AH];go_wp2_with fail;have sB:=hB.size;refine vc (fun X=>Aa w X/\Row X (w.heap.size+1) (oN y)) ⟨BW,RW8⟩ ?_;clear rx sx ro so hB sB;rintro V3⟨hB,ro⟩;have so:=vd ro;refine bodyPost_ret (v:=Ac y) ?res rfl ⟨rfl,hB⟩
 case res=>simp[results,results99,go_sem,so]
theorem kc5{a:Rat}(ha:QDig 200 a)(w:World)(he:Env w):Calls prog 99 #[Q a] w (QIs (vj a) w):=by
 by_cases h:a<0
 ·exact kcm ha h w he
 ·exact ycm ha (by grind) w he
def uV(t:RT):Value:=.agg #[.int .i64 t.s,.string t.a,.string t.b]
theorem jcX{l:List RT}(P:Nat->Bool)(G:FuncId)(eg:∀ args w,(callFunc G args).run prog w=.ok (.enter G args) w)(p:En)(n c:Nat)(hn:l.length=n)(hn1:n<=1000000)(w:World)(hp:UAt 34 w p l)(h:∀ i,i<n->∀ W,Aa w W->Calls prog G #[uV (uD l i)] W (qa (P i) W)):Calls prog 102 #[.slice p n c,.func (.func G) #[] #[]] w (fun e w'=>∃ r:Int,e=.returned (.int .i64 r)/\((r = -1/\∀ j,j<n->P j=false)\/∃ i:Nat,r=(i:Int)/\i<n/\P i=true)/\Aa w w'):=by
 have hB:=Ab w;have HP:=hid hp;clear hp;have hnI:(n:Int)<=1000000:=oo
 go_enter func102,ntmps102;go_wp2_with fail;go_loopw[8] (fun v8 wr=>∃ i:Nat,v8=.int .i64 (i:Int)/\i<=n/\(∀ j,j<i->P j=false)/\Aa w wr) (fun v8 _=>(n-RowKit.intOf v8).toNat)
 case atStart=>exact⟨0,rfl,oo,fun j hj=>absurd hj oo,hB⟩
 case round =>
  clear hB;obtain⟨i,rfl,hin,hall,hB⟩:=hrel;rcases AJ i n with hlt|hge
  ·have hlt':i<l.length:=by rw[hn];exact hlt
   have H:=fun W hB=>h i hlt W hB
   obtain⟨x,hx⟩:∃ x,x=uD l i:=⟨_,rfl⟩
   rw[<- hx]at H;have hlI:(i:Int)<(n:Int):=oo
   obtain⟨g,gcur,rfl,rg,g0,g1,g2⟩:=Eh (Ai HP.out hB) hlt';rw[<- hx]at g0 g1 g2;clear hx;have Fg:=Eo rg g0 g1 g2
   have sg:=Fg _ rg;unfold uV at H;obtain⟨b,hb⟩:∃ b,b=P i:=⟨_,rfl⟩
   rw[<- hb]at H;have HN:=hid hn;have HHB:=hid hb;clear h hb hn
   cases b
   ·go_wp2_with fail;go_wp2_with (go_at_fn G;refine(H _ hB).mono ?_;rintro e W1⟨rfl,h1⟩;have stp:=St1 hB h1 rg;clear hB h1 rg sg;obtain⟨hB,rg⟩:=stp;have sg:=Fg _ rg);go_wp2;go_roundw
    case rel=>exact⟨i+1,by go_num,oo,fun j hj=>by rcases AU.1 hj with h|h;(· exact hall j h);(· subst h;exact HHB.out.symm),BW⟩
    case measure=>exact El
   ·go_wp2_with fail;go_wp2_with (go_at_fn G;refine(H _ hB).mono ?_;rintro e W1⟨rfl,h1⟩;have stp:=St1 hB h1 rg;clear hB h1 rg sg;obtain⟨hB,rg⟩:=stp;have sg:=Fg _ rg);go_wp2;go_ret;exact⟨(i:Int),rfl,.inr ⟨i,rfl,hlt,HHB.out.symm⟩,hB⟩
  ·obtain rfl:i=n:=oo
   go_wp2;go_ret;exact⟨-1,rfl,.inl ⟨rfl,hall⟩,hB⟩
theorem jaI{l:List RT}(P:Nat->Bool)(G:FuncId)(eg:∀ args w,(callFunc G args).run prog w=.ok (.enter G args) w)(p:En)(n c:Nat)(hn:l.length=n)(hn1:n<=1000000)(w:World)(hp:UAt 34 w p l)(h:∀ i,i<n->∀ W,Aa w W->Calls prog G #[uV (uD l i)] W (qa (P i) W)):Calls prog 49 #[.slice p n c,.func (.func G) #[] #[]] w (qa (decide (∃ i,i<n/\P i=true)) w):=by
 have H:=jcX P G eg p n c hn hn1 w hp h;clear h hp eg;unfold qa;generalize hd:decide (∃ i,i<n/\P i=true)=b;go_enter func49,ntmps49;go_wp2_with fail;refine H.mono ?_;rintro e W⟨r,rfl,hr,h1⟩;have hb:decide (0<=r)=b:=by
  rw[<- hd];rcases hr with⟨rfl,hall⟩|⟨i,rfl,hi,hP⟩
  ·exact(decide_eq_false (fun⟨i,hi,h⟩=>by rw[hall i hi]at h;cases h)).symm
  ·exact(decide_eq_true oo).trans (decide_eq_true ⟨i,hi,hP⟩).symm
 clear hr hd;have HH:=hid hb;go_wp2;go_ret;exact⟨rfl,h1⟩
theorem ycW{l:List RT}(P:Nat->Bool)(G:FuncId)(eg:∀ args w,(callFunc G args).run prog w=.ok (.enter G args) w)(p:En)(n c:Nat)(hn:l.length=n)(hn1:n<=1000000)(w:World)(hp:UAt 60 w p l)(h:∀ i,i<n->∀ W,Aa w W->Calls prog G #[uV (uD l i)] W (qa (P i) W)):Calls prog 123 #[.slice p n c,.func (.func G) #[] #[]] w (fun e w'=>∃ r:Int,e=.returned (.int .i64 r)/\((r = -1/\∀ j,j<n->P j=false)\/∃ i:Nat,r=(i:Int)/\i<n/\P i=true)/\Aa w w'):=by
 have hB:=Ab w;have HP:=hid hp;clear hp;have hnI:(n:Int)<=1000000:=oo
 go_enter func123,ntmps123;go_wp2_with fail;go_loopw[8] (fun v8 wr=>∃ i:Nat,v8=.int .i64 (i:Int)/\i<=n/\(∀ j,j<i->P j=false)/\Aa w wr) (fun v8 _=>(n-RowKit.intOf v8).toNat)
 case atStart=>exact⟨0,rfl,oo,fun j hj=>absurd hj oo,hB⟩
 case round =>
  clear hB;obtain⟨i,rfl,hin,hall,hB⟩:=hrel;rcases AJ i n with hlt|hge
  ·have hlt':i<l.length:=by rw[hn];exact hlt
   have H:=fun W hB=>h i hlt W hB
   obtain⟨x,hx⟩:∃ x,x=uD l i:=⟨_,rfl⟩
   rw[<- hx]at H;have hlI:(i:Int)<(n:Int):=oo
   obtain⟨g,gcur,rfl,rg,g0,g1,g2⟩:=Eh (Ai HP.out hB) hlt';rw[<- hx]at g0 g1 g2;clear hx;have Fg:=Eo rg g0 g1 g2
   have sg:=Fg _ rg;unfold uV at H;obtain⟨b,hb⟩:∃ b,b=P i:=⟨_,rfl⟩
   rw[<- hb]at H;have HN:=hid hn;have HHB:=hid hb;clear h hb hn
   cases b
   ·go_wp2_with fail;go_wp2_with (go_at_fn G;refine(H _ hB).mono ?_;rintro e W1⟨rfl,h1⟩;have stp:=St1 hB h1 rg;clear hB h1 rg sg;obtain⟨hB,rg⟩:=stp;have sg:=Fg _ rg);go_wp2;go_roundw
    case rel=>exact⟨i+1,by go_num,oo,fun j hj=>by rcases AU.1 hj with h|h;(· exact hall j h);(· subst h;exact HHB.out.symm),BW⟩
    case measure=>exact El
   ·go_wp2_with fail;go_wp2_with (go_at_fn G;refine(H _ hB).mono ?_;rintro e W1⟨rfl,h1⟩;have stp:=St1 hB h1 rg;clear hB h1 rg sg;obtain⟨hB,rg⟩:=stp;have sg:=Fg _ rg);go_wp2;go_ret;exact⟨(i:Int),rfl,.inr ⟨i,rfl,hlt,HHB.out.symm⟩,hB⟩
  ·obtain rfl:i=n:=oo
   go_wp2;go_ret;exact⟨-1,rfl,.inl ⟨rfl,hall⟩,hB⟩
theorem qb6{l:List RT}(P:Nat->Bool)(G:FuncId)(eg:∀ args w,(callFunc G args).run prog w=.ok (.enter G args) w)(p:En)(n c:Nat)(hn:l.length=n)(hn1:n<=1000000)(w:World)(hp:UAt 60 w p l)(h:∀ i,i<n->∀ W,Aa w W->Calls prog G #[uV (uD l i)] W (qa (P i) W)):Calls prog 79 #[.slice p n c,.func (.func G) #[] #[]] w (qa (decide (∃ i,i<n/\P i=true)) w):=by
 have H:=ycW P G eg p n c hn hn1 w hp h;clear h hp eg;unfold qa;generalize hd:decide (∃ i,i<n/\P i=true)=b;go_enter func79,ntmps79;go_wp2_with fail;refine H.mono ?_;rintro e W⟨r,rfl,hr,h1⟩;have hb:decide (0<=r)=b:=by
  rw[<- hd];rcases hr with⟨rfl,hall⟩|⟨i,rfl,hi,hP⟩
  ·exact(decide_eq_false (fun⟨i,hi,h⟩=>by rw[hall i hi]at h;cases h)).symm
  ·exact(decide_eq_true oo).trans (decide_eq_true ⟨i,hi,hP⟩).symm
 clear hr hd;have HH:=hid hb;go_wp2;go_ret;exact⟨rfl,h1⟩
theorem qcH{l:List RT}(P:Nat->Bool)(G:FuncId)(q:Value)(eg:∀ args w,(callFunc G args).run prog w=.ok (.enter G args) w)(p:En)(n c:Nat)(hn:l.length=n)(hn1:n<=1000000)(w:World)(hp:UAt 60 w p l)(h:∀ i,i<n->∀ W,Aa w W->Calls prog G #[uV (uD l i),q] W (qa (P i) W)):Calls prog 123 #[.slice p n c,.func (.func G) #[] #[q]] w (fun e w'=>∃ r:Int,e=.returned (.int .i64 r)/\((r = -1/\∀ j,j<n->P j=false)\/∃ i:Nat,r=(i:Int)/\i<n/\P i=true)/\Aa w w'):=by
 have hB:=Ab w;have HP:=hid hp;clear hp;have hnI:(n:Int)<=1000000:=oo
 go_enter func123,ntmps123;go_wp2_with fail;go_loopw[8] (fun v8 wr=>∃ i:Nat,v8=.int .i64 (i:Int)/\i<=n/\(∀ j,j<i->P j=false)/\Aa w wr) (fun v8 _=>(n-RowKit.intOf v8).toNat)
 case atStart=>exact⟨0,rfl,oo,fun j hj=>absurd hj oo,hB⟩
 case round =>
  clear hB;obtain⟨i,rfl,hin,hall,hB⟩:=hrel;rcases AJ i n with hlt|hge
  ·have hlt':i<l.length:=by rw[hn];exact hlt
   have H:=fun W hB=>h i hlt W hB
   obtain⟨x,hx⟩:∃ x,x=uD l i:=⟨_,rfl⟩
   rw[<- hx]at H;have hlI:(i:Int)<(n:Int):=oo
   obtain⟨g,gcur,rfl,rg,g0,g1,g2⟩:=Eh (Ai HP.out hB) hlt';rw[<- hx]at g0 g1 g2;clear hx;have Fg:=Eo rg g0 g1 g2
   have sg:=Fg _ rg;unfold uV at H;obtain⟨b,hb⟩:∃ b,b=P i:=⟨_,rfl⟩
   rw[<- hb]at H;have HN:=hid hn;have HHB:=hid hb;clear h hb hn
   cases b
   ·go_wp2_with fail;go_wp2_with (go_at_fn G;refine(H _ hB).mono ?_;rintro e W1⟨rfl,h1⟩;have stp:=St1 hB h1 rg;clear hB h1 rg sg;obtain⟨hB,rg⟩:=stp;have sg:=Fg _ rg);go_wp2;go_roundw
    case rel=>exact⟨i+1,by go_num,oo,fun j hj=>by rcases AU.1 hj with h|h;(· exact hall j h);(· subst h;exact HHB.out.symm),BW⟩
    case measure=>exact El
   ·go_wp2_with fail;go_wp2_with (go_at_fn G;refine(H _ hB).mono ?_;rintro e W1⟨rfl,h1⟩;have stp:=St1 hB h1 rg;clear hB h1 rg sg;obtain⟨hB,rg⟩:=stp;have sg:=Fg _ rg);go_wp2;go_ret;exact⟨(i:Int),rfl,.inr ⟨i,rfl,hlt,HHB.out.symm⟩,hB⟩
  ·obtain rfl:i=n:=oo
   go_wp2;go_ret;exact⟨-1,rfl,.inl ⟨rfl,hall⟩,hB⟩
theorem kbI{l:List RT}(P:Nat->Bool)(G:FuncId)(q:Value)(eg:∀ args w,(callFunc G args).run prog w=.ok (.enter G args) w)(p:En)(n c:Nat)(hn:l.length=n)(hn1:n<=1000000)(w:World)(hp:UAt 60 w p l)(h:∀ i,i<n->∀ W,Aa w W->Calls prog G #[uV (uD l i),q] W (qa (P i) W)):Calls prog 79 #[.slice p n c,.func (.func G) #[] #[q]] w (qa (decide (∃ i,i<n/\P i=true)) w):=by
 have H:=qcH P G q eg p n c hn hn1 w hp h;clear h hp eg;unfold qa;generalize hd:decide (∃ i,i<n/\P i=true)=b;go_enter func79,ntmps79;go_wp2_with fail;refine H.mono ?_;rintro e W⟨r,rfl,hr,h1⟩;have hb:decide (0<=r)=b:=by
  rw[<- hd];rcases hr with⟨rfl,hall⟩|⟨i,rfl,hi,hP⟩
  ·exact(decide_eq_false (fun⟨i,hi,h⟩=>by rw[hall i hi]at h;cases h)).symm
  ·exact(decide_eq_true oo).trans (decide_eq_true ⟨i,hi,hP⟩).symm
 clear hr hd;have HH:=hid hb;go_wp2;go_ret;exact⟨rfl,h1⟩
def qbd(l:List RT):Prop:=∀ i,i<l.length->1<=(uD l i).s/\(uD l i).s<=1000000/\(0<i->(uD l (i-1)).s<(uD l i).s)
instance (l:List RT):Decidable (qbd l):=by unfold qbd;infer_instance
theorem qaY{l:List Trm}(h:SrcOk l):qbd (kN l):=fun i hi=>by
 rw[kf]at hi;rw[yQ hi];have h1:=h.src _ (yk hi);refine⟨by show 1<=((trD l i).s:Int);omega,by show((trD l i).s:Int)<=1000000;omega,fun h0 => ?_⟩;rw[yQ (show i-1<l.length by omega)];have:=h.lt (show i-1<i by omega) hi;show((trD l (i-1)).s:Int)<((trD l i).s:Int);omega
def kM(z:Int)(w:World)(e:Ending)(w':World):Prop:=e=.returned (.int .i64 z)/\Aa w w'
theorem jcy(x:RT)(w:World):Calls prog 48 #[uV x] w (kM x.s w):=by
 have hB:=Ab w;unfold kM uV;go_enter func48,ntmps48;go_wp2;go_ret;exact⟨rfl,BW⟩
theorem ycN(x:RT)(w:World):Calls prog 78 #[uV x] w (kM x.s w):=by
 have hB:=Ab w;unfold kM uV;go_enter func78,ntmps78;go_wp2;go_ret;exact⟨rfl,BW⟩
theorem vcY{l:List RT}(p:En)(n c:Nat)(hn:l.length=n)(hn1:n<=1000000)(w:World)(hp:UAt 34 w p l):Calls prog 47 #[.slice p n c,.func (.func 48) #[] #[]] w (qa (decide (qbd l)) w):=by
 have hB:=Ab w;have HP:=hid hp;clear hp;have hnI:(n:Int)<=1000000:=oo
 have G0:=fun(x:RT) W=>jcy x W
 unfold kM uV at G0;generalize hd:decide (qbd l)=b;unfold qa;go_enter func47,ntmps47;go_wp2_with fail;go_loopw[10] (fun v10 wr=>∃ i:Nat,v10=.int .i64 (i:Int)/\i<=n/\(∀ j,j<i->1<=(uD l j).s/\(uD l j).s<=1000000/\(0<j->(uD l (j-1)).s<(uD l j).s))/\Aa w wr) (fun v10 _=>(n-RowKit.intOf v10).toNat)
 case atStart=>exact⟨0,rfl,oo,fun j hj=>absurd hj oo,hB⟩
 case round =>
  clear hB;obtain⟨i,rfl,hin,hall,hB⟩:=hrel;rcases AJ i n with hlt|hge
  ·have hlt':i<l.length:=by rw[hn];exact hlt
   obtain⟨x,hx⟩:∃ x,x=uD l i:=⟨_,rfl⟩
   have hlI:(i:Int)<(n:Int):=oo
   have KX:=hid hx;have HD:=hid hd;have HN:=hid hn;clear hd hn;obtain⟨g,gcur,rfl,rg,g0,g1,g2⟩:=Eh (Ai HP.out hB) hlt';rw[<- hx]at g0 g1 g2;clear hx;have Fg:=Eo rg g0 g1 g2
   have sg:=Fg _ rg;rcases(show x.s<1\/(1<=x.s/\1000000<x.s)\/(1<=x.s/\x.s<=1000000) by omega)with hs|⟨hs,hs2⟩|⟨hs,hs2⟩
   ·have a1:decide (x.s<1)=true:=decide_eq_true hs;clear hall;go_wp2_with fail;have sB:=hB.size;refine za (fun X=>Aa w X/\Row X g (.cells gcur 34)/\Row X wr.heap.size (.cells #[.int .i64 x.s,.string x.a,.string x.b] 34)) ⟨BW,RWh,RWh⟩ ?_;clear rg sg hB sB;rintro V1⟨hB,rg,rb0⟩;have sg:=Fg _ rg;have sb0:=RF3 rb0;refine(G0 _ _).mono ?_;rintro e W2⟨rfl,h1⟩;have stp:=St2 hB h1 rg rb0;clear hB h1 rg sg rb0 sb0;obtain⟨hB,rg,rb0⟩:=stp;have sg:=Fg _ rg;have sb0:=RF3 rb0;go_wp2;go_ret;have hb:b=false:=HD.out.symm.trans (decide_eq_false fun h=>by have k:=h i hlt';rw[<- KX.out]at k;omega);exact⟨by rw[hb];rfl,hB⟩
   ·clear hall;have a1:decide (x.s<1)=false:=decide_eq_false oo;have a2:decide (1000000<x.s)=true:=decide_eq_true hs2;go_wp2_with fail;have sB:=hB.size;refine za (fun X=>Aa w X/\Row X g (.cells gcur 34)/\Row X wr.heap.size (.cells #[.int .i64 x.s,.string x.a,.string x.b] 34)) ⟨BW,RWh,RWh⟩ ?_;clear rg sg hB sB;rintro V1⟨hB,rg,rb0⟩;have sg:=Fg _ rg;have sb0:=RF3 rb0;refine(G0 _ _).mono ?_;rintro e W2⟨rfl,h1⟩;have stp:=St2 hB h1 rg rb0;clear hB h1 rg sg rb0 sb0;obtain⟨hB,rg,rb0⟩:=stp;have sg:=Fg _ rg;have sb0:=RF3 rb0;go_wp2;go_ret;have hb:b=false:=HD.out.symm.trans (decide_eq_false fun h=>by have k:=h i hlt';rw[<- KX.out]at k;omega);exact⟨by rw[hb];rfl,hB⟩
   ·have a1:decide (x.s<1)=false:=decide_eq_false oo;have a2:decide (1000000<x.s)=false:=decide_eq_false oo;have a1b:¬ x.s<1:=oo
    have a2b:¬ 1000000<x.s:=oo
    obtain⟨k,hk⟩:∃ k:Nat,k=i-1:=⟨_,rfl⟩
    rcases Az i with hi0|hi0
    ·have a3:¬ (0:Int)<(i:Int):=oo
     have HI0:=hid hi0;clear hk k hi0;go_wp2_with fail;have sB:=hB.size;refine za (fun X=>Aa w X/\Row X g (.cells gcur 34)/\Row X wr.heap.size (.cells #[.int .i64 x.s,.string x.a,.string x.b] 34)) ⟨BW,RWh,RWh⟩ ?_;clear rg sg hB sB;rintro V1⟨hB,rg,rb0⟩;have sg:=Fg _ rg;have sb0:=RF3 rb0;refine(G0 _ _).mono ?_;rintro e W2⟨rfl,h1⟩;have stp:=St2 hB h1 rg rb0;clear hB h1 rg sg rb0 sb0;obtain⟨hB,rg,rb0⟩:=stp;have sg:=Fg _ rg;have sb0:=RF3 rb0;go_wp2;go_roundw
     case rel=>exact⟨i+1,by go_num,oo,fun j hj=>by rcases AU.1 hj with h|h;(· exact hall j h);(· subst h;rw[<- KX.out];exact⟨oo,oo,fun h=>absurd h (by have:=HI0.out;omega)⟩),BW⟩
     case measure=>exact El
    ·have a3:(0:Int)<(i:Int):=oo
     have hlk:k<l.length:=oo
     have hmx:max ((i:Int)-1) 0=(k:Int):=oo
     have hkn:(k:Int)<(n:Int):=oo
     have HK:=hid hk;clear hk;obtain⟨y,hy⟩:∃ y,y=uD l k:=⟨_,rfl⟩
     have KY:=hid hy;obtain⟨g',gc2,hgg,rg2,g3,g4,g5⟩:=Eh (Ai HP.out hB) hlk;obtain rfl:g=g':=by simpa using hgg
     obtain rfl:gcur=gc2:=by have:=rg.2.symm.trans rg2.2;simpa using this
     rw[<- hy]at g3 g4 g5;clear hgg hy rg2 hlk sg Fg;have Fg:∀ X,Row X g (.cells gcur 34)->(g<X.heap.size/\X.cell? ⟨g,i*3,none⟩=some (.int .i64 x.s)/\X.cell? ⟨g,i*3+1,none⟩=some (.string x.a)/\X.cell? ⟨g,i*3+2,none⟩=some (.string x.b)/\X.cell? ⟨g,k*3,none⟩=some (.int .i64 y.s)/\X.cell? ⟨g,k*3+1,none⟩=some (.string y.a)/\X.cell? ⟨g,k*3+2,none⟩=some (.string y.b)):=fun X h=>⟨h.1,Af h _ g0,Af h _ g1,Af h _ g2,Af h _ g3,Af h _ g4,Af h _ g5⟩
     have sg:=Fg _ rg;rcases(show x.s<=y.s\/y.s<x.s by omega)with hxy|hxy
     ·clear hall;go_wp2_with fail;have sB:=hB.size;refine za (fun X=>Aa w X/\Row X g (.cells gcur 34)/\Row X wr.heap.size (.cells #[.int .i64 x.s,.string x.a,.string x.b] 34)) ⟨BW,RWh,RWh⟩ ?_;clear rg sg hB sB;rintro V1⟨hB,rg,rb0⟩;have sg:=Fg _ rg;have sb0:=RF3 rb0;refine(G0 _ _).mono ?_;rintro e W2⟨rfl,h1⟩;have stp:=St2 hB h1 rg rb0;clear hB h1 rg sg rb0 sb0;obtain⟨hB,rg,rb0⟩:=stp;have sg:=Fg _ rg;have sb0:=RF3 rb0;go_wp2_with fail;refine(G0 _ _).mono ?_;rintro e W3⟨rfl,h1⟩;have stp:=St2 hB h1 rg rb0;clear hB h1 rg sg rb0 sb0;obtain⟨hB,rg,rb0⟩:=stp;have sg:=Fg _ rg;have sb0:=RF3 rb0;go_wp2;go_ret;have hb:b=false:=HD.out.symm.trans (decide_eq_false fun h=>by have k:=h i hlt';rw[<- KX.out]at k;have k2:=k.2.2 hi0;rw[<- HK.out,<- KY.out]at k2;omega);exact⟨by rw[hb];rfl,hB⟩
     ·have hxy2:¬ x.s<=y.s:=oo
      go_wp2_with fail;have sB:=hB.size;refine za (fun X=>Aa w X/\Row X g (.cells gcur 34)/\Row X wr.heap.size (.cells #[.int .i64 x.s,.string x.a,.string x.b] 34)) ⟨BW,RWh,RWh⟩ ?_;clear rg sg hB sB;rintro V1⟨hB,rg,rb0⟩;have sg:=Fg _ rg;have sb0:=RF3 rb0;refine(G0 _ _).mono ?_;rintro e W2⟨rfl,h1⟩;have stp:=St2 hB h1 rg rb0;clear hB h1 rg sg rb0 sb0;obtain⟨hB,rg,rb0⟩:=stp;have sg:=Fg _ rg;have sb0:=RF3 rb0;go_wp2_with fail;refine(G0 _ _).mono ?_;rintro e W3⟨rfl,h1⟩;have stp:=St2 hB h1 rg rb0;clear hB h1 rg sg rb0 sb0;obtain⟨hB,rg,rb0⟩:=stp;have sg:=Fg _ rg;have sb0:=RF3 rb0;go_wp2;go_roundw
      case rel=>exact⟨i+1,by go_num,oo,fun j hj=>by rcases AU.1 hj with h|h;(· exact hall j h);(· subst h;rw[<- KX.out];exact⟨oo,oo,fun _=>by rw[<- HK.out,<- KY.out];exact hxy⟩),BW⟩
      case measure=>exact El
  ·obtain rfl:i=n:=oo
   have hb:b=true:=hd.symm.trans (decide_eq_true fun j hj=>hall j oo);subst hb;clear hd;go_wp2;go_ret;exact⟨rfl,hB⟩
theorem zc1{l:List RT}(p:En)(n c:Nat)(hn:l.length=n)(hn1:n<=1000000)(w:World)(hp:UAt 60 w p l):Calls prog 77 #[.slice p n c,.func (.func 78) #[] #[]] w (qa (decide (qbd l)) w):=by
 have hB:=Ab w;have HP:=hid hp;clear hp;have hnI:(n:Int)<=1000000:=oo
 have G0:=fun(x:RT) W=>ycN x W
 unfold kM uV at G0;generalize hd:decide (qbd l)=b;unfold qa;go_enter func77,ntmps77;go_wp2_with fail;go_loopw[10] (fun v10 wr=>∃ i:Nat,v10=.int .i64 (i:Int)/\i<=n/\(∀ j,j<i->1<=(uD l j).s/\(uD l j).s<=1000000/\(0<j->(uD l (j-1)).s<(uD l j).s))/\Aa w wr) (fun v10 _=>(n-RowKit.intOf v10).toNat)
 case atStart=>exact⟨0,rfl,oo,fun j hj=>absurd hj oo,hB⟩
 case round =>
  clear hB;obtain⟨i,rfl,hin,hall,hB⟩:=hrel;rcases AJ i n with hlt|hge
  ·have hlt':i<l.length:=by rw[hn];exact hlt
   obtain⟨x,hx⟩:∃ x,x=uD l i:=⟨_,rfl⟩
   have hlI:(i:Int)<(n:Int):=oo
   have KX:=hid hx;have HD:=hid hd;have HN:=hid hn;clear hd hn;obtain⟨g,gcur,rfl,rg,g0,g1,g2⟩:=Eh (Ai HP.out hB) hlt';rw[<- hx]at g0 g1 g2;clear hx;have Fg:=Eo rg g0 g1 g2
   have sg:=Fg _ rg;rcases(show x.s<1\/(1<=x.s/\1000000<x.s)\/(1<=x.s/\x.s<=1000000) by omega)with hs|⟨hs,hs2⟩|⟨hs,hs2⟩
   ·have a1:decide (x.s<1)=true:=decide_eq_true hs;clear hall;go_wp2_with fail;have sB:=hB.size;refine za (fun X=>Aa w X/\Row X g (.cells gcur 60)/\Row X wr.heap.size (.cells #[.int .i64 x.s,.string x.a,.string x.b] 60)) ⟨BW,RWh,RWh⟩ ?_;clear rg sg hB sB;rintro V1⟨hB,rg,rb0⟩;have sg:=Fg _ rg;have sb0:=RF3 rb0;refine(G0 _ _).mono ?_;rintro e W2⟨rfl,h1⟩;have stp:=St2 hB h1 rg rb0;clear hB h1 rg sg rb0 sb0;obtain⟨hB,rg,rb0⟩:=stp;have sg:=Fg _ rg;have sb0:=RF3 rb0;go_wp2;go_ret;have hb:b=false:=HD.out.symm.trans (decide_eq_false fun h=>by have k:=h i hlt';rw[<- KX.out]at k;omega);exact⟨by rw[hb];rfl,hB⟩
   ·clear hall;have a1:decide (x.s<1)=false:=decide_eq_false oo;have a2:decide (1000000<x.s)=true:=decide_eq_true hs2;go_wp2_with fail;have sB:=hB.size;refine za (fun X=>Aa w X/\Row X g (.cells gcur 60)/\Row X wr.heap.size (.cells #[.int .i64 x.s,.string x.a,.string x.b] 60)) ⟨BW,RWh,RWh⟩ ?_;clear rg sg hB sB;rintro V1⟨hB,rg,rb0⟩;have sg:=Fg _ rg;have sb0:=RF3 rb0;refine(G0 _ _).mono ?_;rintro e W2⟨rfl,h1⟩;have stp:=St2 hB h1 rg rb0;clear hB h1 rg sg rb0 sb0;obtain⟨hB,rg,rb0⟩:=stp;have sg:=Fg _ rg;have sb0:=RF3 rb0;go_wp2;go_ret;have hb:b=false:=HD.out.symm.trans (decide_eq_false fun h=>by have k:=h i hlt';rw[<- KX.out]at k;omega);exact⟨by rw[hb];rfl,hB⟩
   ·have a1:decide (x.s<1)=false:=decide_eq_false oo;have a2:decide (1000000<x.s)=false:=decide_eq_false oo;have a1b:¬ x.s<1:=oo
    have a2b:¬ 1000000<x.s:=oo
    obtain⟨k,hk⟩:∃ k:Nat,k=i-1:=⟨_,rfl⟩
    rcases Az i with hi0|hi0
    ·have a3:¬ (0:Int)<(i:Int):=oo
     have HI0:=hid hi0;clear hk k hi0;go_wp2_with fail;have sB:=hB.size;refine za (fun X=>Aa w X/\Row X g (.cells gcur 60)/\Row X wr.heap.size (.cells #[.int .i64 x.s,.string x.a,.string x.b] 60)) ⟨BW,RWh,RWh⟩ ?_;clear rg sg hB sB;rintro V1⟨hB,rg,rb0⟩;have sg:=Fg _ rg;have sb0:=RF3 rb0;refine(G0 _ _).mono ?_;rintro e W2⟨rfl,h1⟩;have stp:=St2 hB h1 rg rb0;clear hB h1 rg sg rb0 sb0;obtain⟨hB,rg,rb0⟩:=stp;have sg:=Fg _ rg;have sb0:=RF3 rb0;go_wp2;go_roundw
     case rel=>exact⟨i+1,by go_num,oo,fun j hj=>by rcases AU.1 hj with h|h;(· exact hall j h);(· subst h;rw[<- KX.out];exact⟨oo,oo,fun h=>absurd h (by have:=HI0.out;omega)⟩),BW⟩
     case measure=>exact El
    ·have a3:(0:Int)<(i:Int):=oo
     have hlk:k<l.length:=oo
     have hmx:max ((i:Int)-1) 0=(k:Int):=oo
     have hkn:(k:Int)<(n:Int):=oo
     have HK:=hid hk;clear hk;obtain⟨y,hy⟩:∃ y,y=uD l k:=⟨_,rfl⟩
     have KY:=hid hy;obtain⟨g',gc2,hgg,rg2,g3,g4,g5⟩:=Eh (Ai HP.out hB) hlk;obtain rfl:g=g':=by simpa using hgg
     obtain rfl:gcur=gc2:=by have:=rg.2.symm.trans rg2.2;simpa using this
     rw[<- hy]at g3 g4 g5;clear hgg hy rg2 hlk sg Fg;have Fg:∀ X,Row X g (.cells gcur 60)->(g<X.heap.size/\X.cell? ⟨g,i*3,none⟩=some (.int .i64 x.s)/\X.cell? ⟨g,i*3+1,none⟩=some (.string x.a)/\X.cell? ⟨g,i*3+2,none⟩=some (.string x.b)/\X.cell? ⟨g,k*3,none⟩=some (.int .i64 y.s)/\X.cell? ⟨g,k*3+1,none⟩=some (.string y.a)/\X.cell? ⟨g,k*3+2,none⟩=some (.string y.b)):=fun X h=>⟨h.1,Af h _ g0,Af h _ g1,Af h _ g2,Af h _ g3,Af h _ g4,Af h _ g5⟩
     have sg:=Fg _ rg;rcases(show x.s<=y.s\/y.s<x.s by omega)with hxy|hxy
     ·clear hall;go_wp2_with fail;have sB:=hB.size;refine za (fun X=>Aa w X/\Row X g (.cells gcur 60)/\Row X wr.heap.size (.cells #[.int .i64 x.s,.string x.a,.string x.b] 60)) ⟨BW,RWh,RWh⟩ ?_;clear rg sg hB sB;rintro V1⟨hB,rg,rb0⟩;have sg:=Fg _ rg;have sb0:=RF3 rb0;refine(G0 _ _).mono ?_;rintro e W2⟨rfl,h1⟩;have stp:=St2 hB h1 rg rb0;clear hB h1 rg sg rb0 sb0;obtain⟨hB,rg,rb0⟩:=stp;have sg:=Fg _ rg;have sb0:=RF3 rb0;go_wp2_with fail;refine(G0 _ _).mono ?_;rintro e W3⟨rfl,h1⟩;have stp:=St2 hB h1 rg rb0;clear hB h1 rg sg rb0 sb0;obtain⟨hB,rg,rb0⟩:=stp;have sg:=Fg _ rg;have sb0:=RF3 rb0;go_wp2;go_ret;have hb:b=false:=HD.out.symm.trans (decide_eq_false fun h=>by have k:=h i hlt';rw[<- KX.out]at k;have k2:=k.2.2 hi0;rw[<- HK.out,<- KY.out]at k2;omega);exact⟨by rw[hb];rfl,hB⟩
     ·have hxy2:¬ x.s<=y.s:=oo
      go_wp2_with fail;have sB:=hB.size;refine za (fun X=>Aa w X/\Row X g (.cells gcur 60)/\Row X wr.heap.size (.cells #[.int .i64 x.s,.string x.a,.string x.b] 60)) ⟨BW,RWh,RWh⟩ ?_;clear rg sg hB sB;rintro V1⟨hB,rg,rb0⟩;have sg:=Fg _ rg;have sb0:=RF3 rb0;refine(G0 _ _).mono ?_;rintro e W2⟨rfl,h1⟩;have stp:=St2 hB h1 rg rb0;clear hB h1 rg sg rb0 sb0;obtain⟨hB,rg,rb0⟩:=stp;have sg:=Fg _ rg;have sb0:=RF3 rb0;go_wp2_with fail;refine(G0 _ _).mono ?_;rintro e W3⟨rfl,h1⟩;have stp:=St2 hB h1 rg rb0;clear hB h1 rg sg rb0 sb0;obtain⟨hB,rg,rb0⟩:=stp;have sg:=Fg _ rg;have sb0:=RF3 rb0;go_wp2;go_roundw
      case rel=>exact⟨i+1,by go_num,oo,fun j hj=>by rcases AU.1 hj with h|h;(· exact hall j h);(· subst h;rw[<- KX.out];exact⟨oo,oo,fun _=>by rw[<- HK.out,<- KY.out];exact hxy⟩),BW⟩
      case measure=>exact El
  ·obtain rfl:i=n:=oo
   have hb:b=true:=hd.symm.trans (decide_eq_true fun j hj=>hall j oo);subst hb;clear hd;go_wp2;go_ret;exact⟨rfl,hB⟩
end Go.Proofs.YtdiecekagiledaaGreatDoor
