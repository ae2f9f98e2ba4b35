/- The reference implementation of forms: At at valid forms and values, whether. -/
import Derived.Test.YtdiecekagiledaaGreatDoorVTail6
set_option linter.unusedSimpArgs false
set_option linter.unusedVariables false
set_option maxRecDepth 100000
set_option maxHeartbeats 16000000
namespace Go.Proofs.YtdiecekagiledaaGreatDoor
open Go Go.RowKit Go.Lib Go.Shelf Go.Proofs.Tryz
attribute [local go_sem] yg
def yaQ(vs:List Trm)(f:Frm)(k:Nat):Bool:=(zR vs f.c f.t k).isNone||(byX vs f.t k).isNone
theorem zcS(m b x:Option Rat):((((m.isNone||b.isNone)||x.isNone)||(yv m x).isNone)=((yv m x).isNone||b.isNone)):=by
 cases m<;>cases b<;>cases x<;>simp[yv,jab]
theorem zc5(m b:Option Rat)(y:Rat):(((m.isNone||b.isNone)||(yv b (some y)).isNone)=(m.isNone||(yv b (some y)).isNone)):=by
 cases m<;>cases b<;>simp[yv]
theorem vcR(m b r:Option Rat)(h:b=none->r=none):(((((m.isNone||b.isNone)||r.isNone)||(jap m r).isNone)||(yv m r).isNone)=((jap m r).isNone||(yv m r).isNone)):=by
 cases m<;>cases b<;>cases r<;>simp_all[yv,jap]
theorem jco{f:Frm}{vs:List Trm}(hd:FDig 200 f)(hv:ValsOk vs)(pv:En)(cv:Nat){m:Nat}(hm:vs.length=m)(hm1:m<=64)(i:Nat)(hi:i<f.t.length):∃ k x,k<=m/\(∀ W,TAt 34 W pv vs->Calls prog 62 #[.slice pv m cv,.int .i64 ((trD f.t i).s:Int)] W (kM (if k<m then(k:Int) else -1) W))/\(k<m->(∀ bc W,Row W bc (.cells #[.bool (yaQ vs f i)] 77)->Calls prog 64 #[.pointer (some ⟨bc,0,none⟩),Q (trD f.t i).c,Q (trD vs k).c] W (CalcR bc (yaQ vs f i||x.isNone) x W))/\(∀ bc W,Row W bc (.cells #[.bool (yaQ vs f i||x.isNone)] 77)->Calls prog 63 #[.pointer (some ⟨bc,0,none⟩),.agg #[.string (o1 (zR vs f.c f.t i)),.string (o2 (zR vs f.c f.t i))],.agg #[.string (o1 x),.string (o2 x)]] W (CalcR bc (yaQ vs f (i+1)) (zR vs f.c f.t (i+1)) W))/\byX vs f.t (i+1)=byX vs f.t i)/\(m<=k->(∀ bc W,Row W bc (.cells #[.bool (yaQ vs f i)] 77)->Calls prog 65 #[.pointer (some ⟨bc,0,none⟩),Q (trD f.t i).c] W (QIs (vj (trD f.t i).c) W))/\(∀ bc W,Row W bc (.cells #[.bool (yaQ vs f i)] 77)->Calls prog 63 #[.pointer (some ⟨bc,0,none⟩),.agg #[.string (o1 (byX vs f.t i)),.string (o2 (byX vs f.t i))],Q (vj (trD f.t i).c)] W (CalcR bc (yaQ vs f (i+1)) (byX vs f.t (i+1)) W))/\zR vs f.c f.t (i+1)=zR vs f.c f.t i):=by
 obtain⟨k,hk,h1,h2,h3⟩:=jbE hv.src (trD f.t i).s;rw[hm]at hk h1 h3;have dt:=hd.t _ (yk hi);refine⟨k,zv (some (trD f.t i).c) (some (trD vs k).c),hk,fun W hW=>kcF hk h1 h2 pv cv hm oo W hW,fun hlt => ?_,fun hge => ?_⟩
 ·rw[if_pos hlt]at h3;have em:=jay (c:=f.c) h3;have eb:=qbe h3;have dv:=hv.dig _ (yk (show k<vs.length by omega));refine⟨fun bc W h => ?_,fun bc W h => ?_,eb⟩
  ·exact qaH bc _ (Cc dt) (Cc dv) W h
  ·have:=yam bc _ (zbk hd.c i:OD (zR vs f.c f.t i)) (zah (some (trD f.t i).c) (some (trD vs k).c)) W h;rw[<- em]at this;have e:yaQ vs f (i+1)=((yaQ vs f i||(zv (some (trD f.t i).c) (some (trD vs k).c)).isNone)||(zR vs f.c f.t (i+1)).isNone):=by unfold yaQ;rw[em,eb,zcS]
   rw[e];exact this
 ·rw[if_neg oo]at h3;have em:=vaU (c:=f.c) h3;have eb:=jbQ h3;refine⟨fun bc W h=>jbv bc _ dt W h,fun bc W h => ?_,em⟩;have:=yam bc _ (kbQ i:OD (byX vs f.t i)) (Cc (vD dt)) W h;rw[<- eb]at this;have e:yaQ vs f (i+1)=(yaQ vs f i||(byX vs f.t (i+1)).isNone):=by unfold yaQ;rw[em,eb,zc5]
  rw[e];exact this
def YC(x y:Option Rat)(w:World)(e:Ending)(w':World):Prop:=∃ Y z,(((x.isNone||y.isNone)=true/\Y=kW/\z=80)\/((x.isNone||y.isNone)=false/\Y=⟨o1 x,o2 x,o1 y,o2 y⟩/\z=0))/\IvX Y z w e w'
theorem zcW{f:Frm}{vs:List Trm}(hv:ValsOk vs)(ho:f.Ok)(hd:FDig 200 f)(pf:En)(cq:Nat)(pv:En)(cv:Nat)(w:World)(hpf:TAt 34 w pf f.t)(hpv:TAt 34 w pv vs):Calls prog 22 #[FV f pf cq,.slice pv vs.length cv] w (YC (jap (zR vs f.c f.t f.t.length) (yU ⟨0,ke vs f.t,f.r⟩)) (yv (zR vs f.c f.t f.t.length) (yU ⟨0,ke vs f.t,f.r⟩)) w):=by
 have hB:=Ab w;have HPf:=hid hpf;have HPv:=hid hpv;have MV:=fun W (h1:TAt 34 W pf f.t)=>jaH ho hd pf cq W h1
 have ML:=fun W (h1:TAt 34 W pv vs)=>vcu hv pv cv W h1
 have MZ:=fun W=>yG (n:=0) dd zG W
 obtain⟨n,hn⟩:=yH f;obtain⟨m,hm⟩:∃ m,vs.length=m:=⟨_,rfl⟩
 have hn64:n<=64:=hn ▸ ho.few;have hm64:m<=64:=hm ▸ hv.few;have KEY:=jco (f:=f) hd hv pv cv hm hm64;have MR:=fun bc W (h:Row W bc (.cells #[.bool (yaQ vs f f.t.length)] 77))=>yam bc _ (kbQ f.t.length:OD (byX vs f.t f.t.length)) (Cc hd.r) W h
 rw[qbQ]at MR;have MA:=fun bc W (h:Row W bc (.cells #[.bool (yaQ vs f f.t.length||(yU ⟨0,ke vs f.t,f.r⟩).isNone)] 77))=>ja8 (b:=yU ⟨0,ke vs f.t,f.r⟩) bc _ (zbk hd.c f.t.length:OD (zR vs f.c f.t f.t.length)) (vaA _ _) W h
 have hfe:=vcR (zR vs f.c f.t f.t.length) (byX vs f.t f.t.length) (yU ⟨0,ke vs f.t,f.r⟩) (fun h=>by rw[<- qbQ,h];rfl);have MA2:=MA;clear MA;have MA:∀ bc W,Row W bc (.cells #[.bool (yaQ vs f f.t.length||(yU ⟨0,ke vs f.t,f.r⟩).isNone)] 77)->Calls prog 42 #[.pointer (some ⟨bc,0,none⟩),.agg #[.string (o1 (zR vs f.c f.t f.t.length)),.string (o2 (zR vs f.c f.t f.t.length))],.agg #[.string (o1 (yU ⟨0,ke vs f.t,f.r⟩)),.string (o2 (yU ⟨0,ke vs f.t,f.r⟩))]] W (vaO bc ((jap (zR vs f.c f.t f.t.length) (yU ⟨0,ke vs f.t,f.r⟩)).isNone||(yv (zR vs f.c f.t f.t.length) (yU ⟨0,ke vs f.t,f.r⟩)).isNone) (jap (zR vs f.c f.t f.t.length) (yU ⟨0,ke vs f.t,f.r⟩)) (yv (zR vs f.c f.t f.t.length) (yU ⟨0,ke vs f.t,f.r⟩)) W):=fun bc W h=>by have:=MA2 bc W h;unfold yaQ at this;rw[hfe]at this;exact this
 clear MA2 hfe;have hm0:zR vs f.c f.t 0=some f.c:=rfl;have hb0:byX vs f.t 0=some 0:=rfl;have hf0:yaQ vs f 0=false:=rfl;unfold FV at *;rw[hn]at KEY MV MR MA ⊢;rw[hm]at ML ⊢;generalize yU ⟨0,ke vs f.t,f.r⟩=r at *;unfold YC IvX;unfold qa at MV ML;unfold CalcR at *;unfold vaO at MA;unfold QIs at *;unfold kM at KEY;generalize hX:jap (zR vs f.c f.t n) r=xl at *;generalize hY:yv (zR vs f.c f.t n) r=xh at *;clear hX hY;generalize zR vs f.c f.t=mid at *;generalize byX vs f.t=byy at *;generalize yaQ vs f=fl at *;have e0:Q 0=.agg #[.string (o1 (byy 0)),.string (o2 (byy 0))]:=by rw[hb0];rfl
 rw[e0]at MZ;clear e0 hb0;unfold Q at *;have HM0:Hid (S f.c.num=o1 (mid 0)/\S (f.c.den:Int)=o2 (mid 0)):=hid (by rw[hm0];exact⟨rfl,rfl⟩);clear hm0;have HF0:=hid hf0;clear hf0;have HK:=hid KEY;have HN:=hid hn;have HMM:=hid hm;clear KEY hn hm hpf hpv ho hd hv;have hnI:(n:Int)<=64:=oo
 have hmI:(m:Int)<=64:=oo
 go_enter func22,ntmps22;go_wp2_with fail;have d0_o:w.heap.size<=w.heap.size+1:=by have:=hB.size;omega
 have sB:=hB.size;refine za (fun X=>Aa w X/\Row X w.heap.size (.cells #[.string (S f.c.num),.string (S (f.c.den:Int)),.slice pf n cq,.string (S f.r.num),.string (S (f.r.den:Int))] 26)/\Row X (w.heap.size+1) (.cells #[.string ⟨#[]⟩,.string ⟨#[]⟩,.string ⟨#[]⟩,.string ⟨#[]⟩] 44)) ⟨BW,RW8,RW8⟩ ?_;clear hB sB;rintro V1⟨hB,rf,ro⟩;have sf:=RF5 rf;have so:=kn ro;refine(MV _ (Ai HPf.out hB)).mono ?_;rintro e W2⟨rfl,h1⟩;have stp:=St2 hB h1 rf ro;clear hB h1 rf sf ro so;obtain⟨hB,rf,ro⟩:=stp;have sf:=RF5 rf;have so:=kn ro;go_wp2_with fail;refine(ML _ (Ai HPv.out hB)).mono ?_;rintro e W3⟨rfl,h1⟩;have stp:=St2 hB h1 rf ro;clear hB h1 rf sf ro so;obtain⟨hB,rf,ro⟩:=stp;have sf:=RF5 rf;have so:=kn ro;go_wp2_with fail;have df_k:w.heap.size<W3.heap.size:=oo
 have do_k:w.heap.size+1<W3.heap.size:=oo
 have d0_k:w.heap.size<=W3.heap.size:=by have:=hB.size;omega
 have df_m:w.heap.size<W3.heap.size+1:=oo
 have do_m:w.heap.size+1<W3.heap.size+1:=oo
 have d0_m:w.heap.size<=W3.heap.size+1:=by have:=hB.size;omega
 have sB:=hB.size;refine za (kp2 hB rf ro fun X=>Row X W3.heap.size (.cells #[.bool false] 77)/\Row X (W3.heap.size+1) (.cells #[.string (S f.c.num),.string (S (f.c.den:Int))] 23)) ⟨BW,RW8,RW8,RW8,RW8⟩ ?_;unfold kp2;clear rf sf ro so hB sB;rintro V4⟨hB,rf,ro,rk,rm⟩;have sf:=RF5 rf;have so:=kn ro;have sk:=jz rk;have sm:=vd rm;refine(MZ _).mono ?_;rintro e W5⟨rfl,h1⟩;have stp:=St4 hB h1 rf ro rk rm;clear hB h1 rf sf ro so rk sk rm sm;obtain⟨hB,rf,ro,rk,rm⟩:=stp;have sf:=RF5 rf;have so:=kn ro;have sk:=jz rk;have sm:=vd rm;go_wp2_with fail;have df_y:w.heap.size<W5.heap.size:=oo
 have do_y:w.heap.size+1<W5.heap.size:=oo
 have dk_y:W3.heap.size<W5.heap.size:=oo
 have dm_y:W3.heap.size+1<W5.heap.size:=oo
 have d0_y:w.heap.size<=W5.heap.size:=by have:=hB.size;omega
 have sB:=hB.size;refine zi (kp4 hB rf ro rk rm fun X=>Row X W5.heap.size (.cells #[.string (o1 (byy 0)),.string (o2 (byy 0))] 23)) ⟨BW,RW8,RW8,RW8,RW8,RW8⟩ ?_;unfold kp4;clear rf sf ro so rk sk rm sm hB sB;rintro V6⟨hB,rf,ro,rk,rm,ry⟩;have sf:=RF5 rf;have so:=kn ro;have sk:=jz rk;have sm:=vd rm;have sy:=vd ry;clear sf so sk sm sy;rw[HM0.out.1,HM0.out.2]at rm;rw[<- HF0.out]at rk;go_loopw[11] (fun v11 wr=>∃ i:Nat,v11=.int .i64 (i:Int)/\i<=n/\Aa w wr/\Row wr w.heap.size (.cells #[.string (S f.c.num),.string (S (f.c.den:Int)),.slice pf n cq,.string (S f.r.num),.string (S (f.r.den:Int))] 26)/\Row wr (w.heap.size+1) (.cells #[.string ⟨#[]⟩,.string ⟨#[]⟩,.string ⟨#[]⟩,.string ⟨#[]⟩] 44)/\Row wr W3.heap.size (.cells #[.bool (fl i)] 77)/\Row wr (W3.heap.size+1) (.cells #[.string (o1 (mid i)),.string (o2 (mid i))] 23)/\Row wr W5.heap.size (.cells #[.string (o1 (byy i)),.string (o2 (byy i))] 23)) (fun v11 _=>(n-RowKit.intOf v11).toNat)
 case atStart=>exact⟨0,rfl,oo,hB,rf,ro,rk,rm,ry⟩
 case round =>
  clear hB rf ro rk rm ry;obtain⟨i,rfl,hin,hB,rf,ro,rk,rm,ry⟩:=hrel;have sf:=RF5 rf;have so:=kn ro;have sk:=jz rk;have sm:=vd rm;have sy:=vd ry;rcases AJ i n with hlt|hge
  ·have hlt':i<f.t.length:=by rw[HN.out];exact hlt
   obtain⟨k,x,hkm,KF,KY,KN⟩:=HK.out i hlt;have hiI:(i:Int)<(n:Int):=oo
   obtain⟨t,ht⟩:∃ t,t=trD f.t i:=⟨_,rfl⟩
   obtain⟨v,hv⟩:∃ v,v=trD vs k:=⟨_,rfl⟩
   rw[<- ht]at KF KY KN;rw[<- hv]at KY;obtain⟨gf,gcur,rfl,rgf,g0,g1,g2⟩:=Cd (Ai HPf.out hB) hlt';rw[<- ht]at g0 g1 g2;clear ht;have Fgf:=Eo rgf g0 g1 g2
   have sgf:=Fgf _ rgf;have gfk:gf≠W3.heap.size:=yS rgf rk dd;rcases AJ k m with hk|hk
   ·obtain⟨KM,KA,eby⟩:=KY hk;clear KY KN;rw[if_pos hk]at KF;have HEB:=hid eby;clear eby;have hk':k<vs.length:=by rw[HMM.out];exact hk
    have hkI:(k:Int)<(m:Int):=oo
    have hk0:(0:Int)<=(k:Int):=oo
    obtain⟨gv,kcur,rfl,rgv,k0,k1,k2⟩:=Cd (Ai HPv.out hB) hk';rw[<- hv]at k0 k1 k2;clear hv;have Fgv:=Eo rgv k0 k1 k2
    have sgv:=Fgv _ rgv;have gvk:gv≠W3.heap.size:=yS rgv rk dd;go_wp2_with fail;have df_t:w.heap.size<wr.heap.size:=oo
    have do_t:w.heap.size+1<wr.heap.size:=oo
    have dk_t:W3.heap.size<wr.heap.size:=oo
    have dm_t:W3.heap.size+1<wr.heap.size:=oo
    have dy_t:W5.heap.size<wr.heap.size:=oo
    have dgf_t:gf<wr.heap.size:=oo
    have dgv_t:gv<wr.heap.size:=oo
    have d0_t:w.heap.size<=wr.heap.size:=by have:=hB.size;omega
    have sB:=hB.size;refine za (fun X=>Aa w X/\Row X w.heap.size (.cells #[.string (S f.c.num),.string (S (f.c.den:Int)),.slice (some ⟨gf,0,none⟩) n cq,.string (S f.r.num),.string (S (f.r.den:Int))] 26)/\Row X (w.heap.size+1) (.cells #[.string ⟨#[]⟩,.string ⟨#[]⟩,.string ⟨#[]⟩,.string ⟨#[]⟩] 44)/\Row X W3.heap.size (.cells #[.bool (fl i)] 77)/\Row X (W3.heap.size+1) (.cells #[.string (o1 (mid i)),.string (o2 (mid i))] 23)/\Row X W5.heap.size (.cells #[.string (o1 (byy i)),.string (o2 (byy i))] 23)/\Row X gf (.cells gcur 34)/\Row X gv (.cells kcur 34)/\Row X wr.heap.size (.cells #[.int .i64 (t.s:Int),.string (S t.c.num),.string (S (t.c.den:Int))] 34)) ⟨BW,RW8,RW8,RW8,RW8,RW8,RW8,RW8,RW8⟩ ?_;clear rf sf ro so rk sk rm sm ry sy rgf sgf rgv sgv hB sB;rintro V7⟨hB,rf,ro,rk,rm,ry,rgf,rgv,rt⟩;have sf:=RF5 rf;have so:=kn ro;have sk:=jz rk;have sm:=vd rm;have sy:=vd ry;have sgf:=Fgf _ rgf;have sgv:=Fgv _ rgv;have st:=vad rt;refine(KF _ (Ai HPv.out hB)).mono ?_;rintro e W8⟨rfl,h1⟩;have stp:=St8 hB h1 rf ro rk rm ry rgf rgv rt;clear hB h1 rf sf ro so rk sk rm sm ry sy rgf sgf rgv sgv rt st;obtain⟨hB,rf,ro,rk,rm,ry,rgf,rgv,rt⟩:=stp;have sf:=RF5 rf;have so:=kn ro;have sk:=jz rk;have sm:=vd rm;have sy:=vd ry;have sgf:=Fgf _ rgf;have sgv:=Fgv _ rgv;have st:=vad rt
    go_upto_region 14 with fail;go_wp2_with fail;refine jaZ 11 10 W3.heap.size (.cells #[.bool (fl i||x.isNone)] 77) [.val (.pointer (some ⟨W3.heap.size,0,none⟩)),.val (.agg #[.string (o1 (mid i)),.string (o2 (mid i))]),.val (.pointer (some ⟨W3.heap.size,0,none⟩)),.val (.pointer (some ⟨wr.heap.size,1,none⟩)),.val (Ac t.c),.val (.slice (some ⟨gv,0,none⟩) m cv),.val (.int .i64 (k:Int)),.val (.pointer (some ⟨gv,k*3,none⟩)),.val (.pointer (some ⟨gv,k*3+1,none⟩)),.val (Ac v.c),.val (.agg #[.string (o1 x),.string (o2 x)])] [false,false,false,false,false,false,false,false,false,false,true] [false,false,true,true,true,true,true,true,true,true,true] [] kr9 kr9 rfl kr9 kr9 trivial (soI qi0 (soI (qi1 fun X h=>vd (Ae rm h)) (soI qi0 (soI qi0 (soI (qi1 fun X h=>vad (Ae rt h)) (soI qi0 (soI qi0 (soI (qif hkI) (soI qi0 (soI (qi1 fun X h=>Fgv X (Ae rgv h)) (soS trivial))))))))))) (fun w1 g9 _=>(soI qi0 (soI (qi1 fun X h=>vd (Ae (Aw rm g9 oo) h)) (soS (soS (soS (soS (soS (soS (soS (soS (soS trivial)))))))))))) (oiS (oiS (oiS (oiS (oiS (oiS (oiS (oiS (oiS (oiS (oiZ (qi9 fun X h=>KM _ X (Ae rk h))))))))))))) ?_;rintro W9 hg rk9;have stp:=Sj7 hB hg rf ro rm ry rgf rgv rt;clear hB hg rk sk rf sf ro so rm sm ry sy rgf sgf rgv sgv rt st;obtain⟨hB,rf,ro,rm,ry,rgf,rgv,rt⟩:=stp
    have rk:=rk9;clear rk9;have sf:=RF5 rf;have so:=kn ro;have sk:=jz rk;have sm:=vd rm;have sy:=vd ry;have sgf:=Fgf _ rgf;have sgv:=Fgv _ rgv;have st:=vad rt;rintro W h1;have stp:=St8 hB h1 rf ro rk rm ry rgf rgv rt;clear hB h1 rf sf ro so rk sk rm sm ry sy rgf sgf rgv sgv rt st;obtain⟨hB,rf,ro,rk,rm,ry,rgf,rgv,rt⟩:=stp;have sf:=RF5 rf;have so:=kn ro;have sk:=jz rk;have sm:=vd rm;have sy:=vd ry;have sgf:=Fgf _ rgf;have sgv:=Fgv _ rgv;have st:=vad rt;simp only[je,Ah,Ak,Al,AB,AI,AC,AH];intro _;go_wp2_with fail;refine(KA _ _ (by exact rk)).mono ?_;rintro e W9⟨rfl,rk9,hg⟩;have stp:=Sj7 hB hg rf ro rm ry rgf rgv rt;clear hB hg rk sk rf sf ro so rm sm ry sy rgf sgf rgv sgv rt st;obtain⟨hB,rf,ro,rm,ry,rgf,rgv,rt⟩:=stp;have rk:=rk9;clear rk9;have sf:=RF5 rf;have so:=kn ro;have sk:=jz rk;have sm:=vd rm;have sy:=vd ry;have sgf:=Fgf _ rgf;have sgv:=Fgv _ rgv;have st:=vad rt;rw[<- HEB.out]at ry;go_wp2;go_roundw
    case rel=>exact⟨i+1,by go_num,oo,BW,RW8,RW8,RW8,RW8,RW8⟩
    case measure=>exact El
   ·obtain⟨KM,KA,emid⟩:=KN hk;clear KY KN;rw[if_neg oo]at KF;have HEM:=hid emid;clear emid hv;go_wp2_with fail;have df_t:w.heap.size<wr.heap.size:=oo
    have do_t:w.heap.size+1<wr.heap.size:=oo
    have dk_t:W3.heap.size<wr.heap.size:=oo
    have dm_t:W3.heap.size+1<wr.heap.size:=oo
    have dy_t:W5.heap.size<wr.heap.size:=oo
    have dgf_t:gf<wr.heap.size:=oo
    have d0_t:w.heap.size<=wr.heap.size:=by have:=hB.size;omega
    have sB:=hB.size;refine za (fun X=>Aa w X/\Row X w.heap.size (.cells #[.string (S f.c.num),.string (S (f.c.den:Int)),.slice (some ⟨gf,0,none⟩) n cq,.string (S f.r.num),.string (S (f.r.den:Int))] 26)/\Row X (w.heap.size+1) (.cells #[.string ⟨#[]⟩,.string ⟨#[]⟩,.string ⟨#[]⟩,.string ⟨#[]⟩] 44)/\Row X W3.heap.size (.cells #[.bool (fl i)] 77)/\Row X (W3.heap.size+1) (.cells #[.string (o1 (mid i)),.string (o2 (mid i))] 23)/\Row X W5.heap.size (.cells #[.string (o1 (byy i)),.string (o2 (byy i))] 23)/\Row X gf (.cells gcur 34)/\Row X wr.heap.size (.cells #[.int .i64 (t.s:Int),.string (S t.c.num),.string (S (t.c.den:Int))] 34)) ⟨BW,RW8,RW8,RW8,RW8,RW8,RW8,RW8⟩ ?_;clear rf sf ro so rk sk rm sm ry sy rgf sgf hB sB;rintro V7⟨hB,rf,ro,rk,rm,ry,rgf,rt⟩;have sf:=RF5 rf;have so:=kn ro;have sk:=jz rk;have sm:=vd rm;have sy:=vd ry;have sgf:=Fgf _ rgf;have st:=vad rt;refine(KF _ (Ai HPv.out hB)).mono ?_;rintro e W8⟨rfl,h1⟩;have stp:=St7 hB h1 rf ro rk rm ry rgf rt;clear hB h1 rf sf ro so rk sk rm sm ry sy rgf sgf rt st;obtain⟨hB,rf,ro,rk,rm,ry,rgf,rt⟩:=stp;have sf:=RF5 rf;have so:=kn ro;have sk:=jz rk;have sm:=vd rm;have sy:=vd ry;have sgf:=Fgf _ rgf;have st:=vad rt;go_upto_region 15 with fail;generalize vj t.c=y at *;go_wp2_with fail;refine jj 6 [.val (.pointer (some ⟨W3.heap.size,0,none⟩)),.val (.agg #[.string (o1 (byy i)),.string (o2 (byy i))]),.val (.pointer (some ⟨W3.heap.size,0,none⟩)),.val (.pointer (some ⟨wr.heap.size,1,none⟩)),.val (Ac t.c),.val (Ac y)] [] kr9 kr9 rfl trivial (iC qi0 (iC (qi1 fun X h=>vd (Ae ry h)) (iC qi0 (iC qi0 (iC (qi1 fun X h=>vad (Ae rt h)) (iC (qi2 fun X h=>KM (W3.heap.size) X (Ae rk h)) trivial)))))) ?_
    rintro W h1;have stp:=St7 hB h1 rf ro rk rm ry rgf rt;clear hB h1 rf sf ro so rk sk rm sm ry sy rgf sgf rt st;obtain⟨hB,rf,ro,rk,rm,ry,rgf,rt⟩:=stp;have sf:=RF5 rf;have so:=kn ro;have sk:=jz rk;have sm:=vd rm;have sy:=vd ry;have sgf:=Fgf _ rgf;have st:=vad rt;simp only[je,Ah,Ak,Al,AB,AI,AC,AH];intro _;go_wp2_with fail;refine(KA _ _ (by exact rk)).mono ?_;rintro e W9⟨rfl,rk9,hg⟩;have stp:=Sj6 hB hg rf ro rm ry rgf rt;clear hB hg rk sk rf sf ro so rm sm ry sy rgf sgf rt st;obtain⟨hB,rf,ro,rm,ry,rgf,rt⟩:=stp;have rk:=rk9;clear rk9;have sf:=RF5 rf;have so:=kn ro;have sk:=jz rk;have sm:=vd rm;have sy:=vd ry;have sgf:=Fgf _ rgf;have st:=vad rt;rw[<- HEM.out]at rm;go_wp2;go_roundw
    case rel=>exact⟨i+1,by go_num,oo,BW,RW8,RW8,RW8,RW8,RW8⟩
    case measure=>exact El
  ·obtain rfl:n=i:=oo
   clear HK;go_upto_region 16 with fail;go_wp2_with fail;clear sf so sk sm sy;have KK16:∀ X,Row X (W3.heap.size+1) (.cells #[.string (o1 (mid n)),.string (o2 (mid n))] 23)->Row X (W5.heap.size) (.cells #[.string (o1 (byy n)),.string (o2 (byy n))] 23)->Row X (w.heap.size) (.cells #[.string (S f.c.num),.string (S (f.c.den:Int)),.slice pf n cq,.string (S f.r.num),.string (S (f.r.den:Int))] 26)->(X.cell? ⟨W3.heap.size+1,0,none⟩=some (.string (o1 (mid n)))/\X.cell? ⟨W3.heap.size+1,1,none⟩=some (.string (o2 (mid n)))/\X.cell? ⟨W5.heap.size,0,none⟩=some (.string (o1 (byy n)))/\X.cell? ⟨W5.heap.size,1,none⟩=some (.string (o2 (byy n)))/\X.cell? ⟨w.heap.size,3,none⟩=some (.string (S f.r.num))/\X.cell? ⟨w.heap.size,4,none⟩=some (.string (S (f.r.den:Int)))):=fun X hm hy hf=>⟨Af hm 0 rfl,Af hm 1 rfl,Af hy 0 rfl,Af hy 1 rfl,Af hf 3 rfl,Af hf 4 rfl⟩
   go_region_held3 (fun X=>X.cell? ⟨W3.heap.size+1,0,none⟩=some (.string (o1 (mid n)))/\X.cell? ⟨W3.heap.size+1,1,none⟩=some (.string (o2 (mid n)))/\X.cell? ⟨W5.heap.size,0,none⟩=some (.string (o1 (byy n)))/\X.cell? ⟨W5.heap.size,1,none⟩=some (.string (o2 (byy n)))/\X.cell? ⟨w.heap.size,3,none⟩=some (.string (S f.r.num))/\X.cell? ⟨w.heap.size,4,none⟩=some (.string (S (f.r.den:Int)))) (first|exact KK16 _ RW8 RW8 RW8) (first
     | (go_at_call 63;refine(MR _ _ (by first|exact rk|exact AX rk)).mono ?_;rintro e W⟨rfl,rk9,hg⟩;(try replace hg:=jh hg);replace hB:=zu hB hg oo;replace rf:=Aw rf hg oo;replace ro:=Aw ro hg oo;replace rm:=Aw rm hg oo;replace ry:=Aw ry hg oo;replace rk:=rk9)
     | (go_at_call 42;refine(MA _ _ (by first|exact rk|exact AX rk)).mono ?_;rintro e W⟨Y,z,hz,rfl,hg⟩;(try replace hg:=jh hg);replace hB:=zu hB hg oo;replace rf:=Aw rf hg oo;replace ro:=Aw ro hg oo;replace rm:=Aw rm hg oo;replace ry:=Aw ry hg oo;clear rk;have so:=kn ro))
   clear KK16 so;have sf:=RF5 rf;have so:=kn ro;have sm:=vd rm;have sy:=vd ry;go_wp2_with fail;have sB:=hB.size;refine vc (fun X=>Aa w X/\Row X (w.heap.size+1) (.cells #[.string Y.l1,.string Y.l2,.string Y.h1,.string Y.h2] 44)) ⟨BW,RW8⟩ ?_;clear rf sf ro so rm sm ry sy hB sB;rintro V7⟨hB,ro⟩;have so:=kn ro;refine bodyPost_ret (v:=.tuple #[.agg #[.string Y.l1,.string Y.l2,.string Y.h1,.string Y.h2],.int .i64 z]) ?res rfl ⟨Y,z,hz,rfl,hB⟩
   case res=>simp[results,results22,go_sem,so]
structure OTm where
 s:Nat
 x:Option Rat
def OTm.raw(t:OTm):RT:=⟨(t.s:Int),o1 t.x,o2 t.x⟩
def jS(l:List OTm):List RT:=l.map OTm.raw
theorem zaw(l:List OTm):(jS l).length=l.length:=by simp[jS]
theorem kb4(l m:List OTm):jS (l++m)=jS l++jS m:=by simp[jS]
def Trm.otm(t:Trm):OTm:=⟨t.s,some t.c⟩
theorem zbH(l:List Trm):jS (l.map Trm.otm)=kN l:=by
 unfold jS kN;rw[List.map_map];rfl
def zt(s:Nat)(x:Option Rat)(l:List OTm):List OTm:=if x=some 0 then l else⟨s,x⟩ :: l
def jba(l:List OTm)(s:Nat)(x:Option Rat):List OTm:=if x=some 0 then l else l++[⟨s,x⟩]
theorem kah(o:List OTm)(s:Nat)(x:Option Rat)(r:List OTm):o++zt s x r=jba o s x++r:=by
 unfold zt jba;split<;>simp
theorem jR(s:Nat)(x:Option Rat)(r:List OTm):(zt s x r).length<=r.length+1:=by
 unfold zt;split<;>simp
theorem yM(s:Nat)(c:Rat)(l:List Trm):zt s (some c) (l.map Trm.otm)=(ahead s c l).map Trm.otm:=by
 unfold zt ahead;by_cases h:c=0
 ·rw[if_pos (by rw[h]),if_pos h]
 ·rw[if_neg (by simpa using h),if_neg h];rfl
abbrev qz(p:Rat)(x:Trm):Option Rat:=zv (some p) (some x.c)
def js(p q:Rat):List Trm->List Trm->List OTm × Bool
 | [],[]=>([],false)
 | x :: a,[]=>(zt x.s (qz p x) (js p q a []).1,(qz p x).isNone||(js p q a []).2)
 | [],y :: b=>(zt y.s (qz q y) (js p q [] b).1,(qz q y).isNone||(js p q [] b).2)
 | x :: a,y :: b =>
  if x.s<y.s then(zt x.s (qz p x) (js p q a (y :: b)).1,(qz p x).isNone||(js p q a (y :: b)).2)
  else if y.s<x.s then(zt y.s (qz q y) (js p q (x :: a) b).1,(qz q y).isNone||(js p q (x :: a) b).2)
  else(zt x.s (yv (qz p x) (qz q y)) (js p q a b).1,((qz p x).isNone||(qz q y).isNone||(yv (qz p x) (qz q y)).isNone)||(js p q a b).2)
 termination_by a b=>a.length+b.length
theorem yac(p q:Rat):js p q [] []=([],false):=by unfold js;rfl
theorem vaE(p q:Rat)(x:Trm)(a:List Trm):js p q (x :: a) []=(zt x.s (qz p x) (js p q a []).1,(qz p x).isNone||(js p q a []).2):=by rw[js]
theorem jas(p q:Rat)(y:Trm)(b:List Trm):js p q [] (y :: b)=(zt y.s (qz q y) (js p q [] b).1,(qz q y).isNone||(js p q [] b).2):=by rw[js]
theorem qaa(p q:Rat)(x y:Trm)(a b:List Trm):js p q (x :: a) (y :: b) =
  if x.s<y.s then(zt x.s (qz p x) (js p q a (y :: b)).1,(qz p x).isNone||(js p q a (y :: b)).2)
  else if y.s<x.s then(zt y.s (qz q y) (js p q (x :: a) b).1,(qz q y).isNone||(js p q (x :: a) b).2)
  else(zt x.s (yv (qz p x) (qz q y)) (js p q a b).1,((qz p x).isNone||(qz q y).isNone||(yv (qz p x) (qz q y)).isNone)||(js p q a b).2):=by rw[js]
theorem kA{p:Rat}{x:Trm}(h:MF p x.c):qz p x=some (p*x.c):=qv h
theorem zcm{p:Rat}{x:Trm}(h:¬ MF p x.c):qz p x=none:=yay h
theorem vas{p:Rat}{x:Trm}:(qz p x).isNone=false↔MF p x.c:=by
 by_cases h:MF p x.c
 ·rw[kA h];exact⟨fun _=>h,fun _=>rfl⟩
 ·rw[zcm h];exact⟨fun k=>by simp at k,fun k=>absurd k h⟩
theorem zbY{p q:Rat}:∀(n:Nat) (a b:List Trm),a.length+b.length<=n->(js p q a b).1.length<=a.length+b.length:=by
 intro n
 induction n with
 | zero =>
  intro a b hn;have e1:a=[]:=Bc.1 oo;have e2:b=[]:=Bc.1 oo;subst e1 e2;rw[yac];exact Bt _
 | succ n ih =>
  intro a b hn
  match a,b with
  | [],[]=>rw[yac];exact Bt _
  | x :: a,[] =>
   rw[vaE];have:=ih a [] (by simp at hn ⊢;omega);have:=jR x.s (qz p x) (js p q a []).1;simp only[AE,Bh]at *;omega
  | [],y :: b =>
   rw[jas];have:=ih [] b (by simp at hn ⊢;omega);have:=jR y.s (qz q y) (js p q [] b).1;simp only[AE,Bh]at *;omega
  | x :: a,y :: b =>
   rw[AE,AE]at hn;rw[qaa];split
   ·have:=ih a (y :: b) (by simp;omega);have:=jR x.s (qz p x) (js p q a (y :: b)).1;simp only[AE]at *;omega
   ·split
    ·have:=ih (x :: a) b (by simp;omega);have:=jR y.s (qz q y) (js p q (x :: a) b).1;simp only[AE]at *;omega
    ·have:=ih a b oo;have:=jR x.s (yv (qz p x) (qz q y)) (js p q a b).1;simp only[AE]at *;omega
theorem vck(p q:Rat)(a b:List Trm):(js p q a b).1.length<=a.length+b.length:=zbY _ a b (Am _)
theorem zcl{p q:Rat}:∀(n:Nat) (a b:List Trm),a.length+b.length<=n->((js p q a b).2=false↔ku p q a b)/\(ku p q a b->(js p q a b).1=(lin p q a b).map Trm.otm):=by
 intro n
 induction n with
 | zero =>
  intro a b hn;have e1:a=[]:=Bc.1 oo;have e2:b=[]:=Bc.1 oo;subst e1 e2;rw[yac,zD,ku];exact⟨⟨fun _=>trivial,fun _=>rfl⟩,fun _=>rfl⟩
 | succ n ih =>
  intro a b hn
  match a,b with
  | [],[]=>rw[yac,zD,ku];exact⟨⟨fun _=>trivial,fun _=>rfl⟩,fun _=>rfl⟩
  | x :: a,[] =>
   obtain⟨h1,h2⟩:=ih a [] (by simp at hn ⊢;omega);rw[vaE,yK,ku];refine⟨?_,fun h => ?_⟩
   ·show((qz p x).isNone||_)=false↔_;rw[BH,vas,h1]
   ·show zt _ _ _=_;rw[h2 h.2,kA h.1,yM]
  | [],y :: b =>
   obtain⟨h1,h2⟩:=ih [] b (by simp at hn ⊢;omega);rw[jas,zS,ku];refine⟨?_,fun h => ?_⟩
   ·show((qz q y).isNone||_)=false↔_;rw[BH,vas,h1]
   ·show zt _ _ _=_;rw[h2 h.2,kA h.1,yM]
  | x :: a,y :: b =>
   rw[AE,AE]at hn;rw[qaa,qI,vR];split
   ·obtain⟨h1,h2⟩:=ih a (y :: b) (by simp;omega);refine⟨?_,fun h => ?_⟩
    ·show((qz p x).isNone||_)=false↔_;rw[BH,vas,h1]
    ·show zt _ _ _=_;rw[h2 h.2,kA h.1,yM]
   ·split
    ·obtain⟨h1,h2⟩:=ih (x :: a) b (by simp;omega);refine⟨?_,fun h => ?_⟩
     ·show((qz q y).isNone||_)=false↔_;rw[BH,vas,h1]
     ·show zt _ _ _=_;rw[h2 h.2,kA h.1,yM]
    ·obtain⟨h1,h2⟩:=ih a b oo;refine⟨?_,fun h => ?_⟩
     ·show(((qz p x).isNone||(qz q y).isNone||_)||_)=false↔_;rw[BH,BH,BH,vas,vas,h1];refine⟨fun⟨⟨⟨k1,k2⟩,k3⟩,k4⟩=>⟨k1,k2,?_,k4⟩,fun⟨k1,k2,k3,k4⟩=>⟨⟨⟨k1,k2⟩,?_⟩,k4⟩⟩
      ·by_cases ha:AF (p*x.c) (q*y.c)
       ·exact ha
       ·rw[kA k1,kA k2,qT ha]at k3;simp at k3
      ·rw[kA k1,kA k2,zA k3];rfl
     ·show zt _ _ _=_;rw[h2 h.2.2.2,kA h.1,kA h.2.1,zA h.2.2.1,yM]
theorem zcD(p q:Rat)(a b:List Trm):((js p q a b).2=false↔ku p q a b)/\(ku p q a b->(js p q a b).1=(lin p q a b).map Trm.otm):=zcl _ a b (Am _)
theorem zbE(p q:Rat)(a b:List Trm)(i k:Nat) :
  (a.length<=i/\b.length<=k/\js p q (a.drop i) (b.drop k)=([],false))
  \/ (i<a.length/\b.length<=k/\js p q (a.drop i) (b.drop k)=(zt (trD a i).s (qz p (trD a i)) (js p q (a.drop (i+1)) (b.drop k)).1,(qz p (trD a i)).isNone||(js p q (a.drop (i+1)) (b.drop k)).2))
  \/ (i<a.length/\k<b.length/\(trD a i).s<(trD b k).s/\js p q (a.drop i) (b.drop k)=(zt (trD a i).s (qz p (trD a i)) (js p q (a.drop (i+1)) (b.drop k)).1,(qz p (trD a i)).isNone||(js p q (a.drop (i+1)) (b.drop k)).2))
  \/ (a.length<=i/\k<b.length/\js p q (a.drop i) (b.drop k)=(zt (trD b k).s (qz q (trD b k)) (js p q (a.drop i) (b.drop (k+1))).1,(qz q (trD b k)).isNone||(js p q (a.drop i) (b.drop (k+1))).2))
  \/ (i<a.length/\k<b.length/\(trD b k).s<(trD a i).s/\js p q (a.drop i) (b.drop k)=(zt (trD b k).s (qz q (trD b k)) (js p q (a.drop i) (b.drop (k+1))).1,(qz q (trD b k)).isNone||(js p q (a.drop i) (b.drop (k+1))).2))
  \/ (i<a.length/\k<b.length/\(trD a i).s=(trD b k).s/\js p q (a.drop i) (b.drop k)=(zt (trD a i).s (yv (qz p (trD a i)) (qz q (trD b k))) (js p q (a.drop (i+1)) (b.drop (k+1))).1,((qz p (trD a i)).isNone||(qz q (trD b k)).isNone||(yv (qz p (trD a i)) (qz q (trD b k))).isNone)||(js p q (a.drop (i+1)) (b.drop (k+1))).2)):=by
 by_cases h1:a.length<=i
 ·by_cases h2:b.length<=k
  ·exact .inl ⟨h1,h2,by rw[yt h1,yt h2,yac]⟩
  ·refine .inr (.inr (.inr (.inl ⟨h1,oo,?_⟩)));rw[yt h1,kH (show k<b.length by omega),jas]
 ·by_cases h2:b.length<=k
  ·refine .inr (.inl ⟨oo,h2,?_⟩);rw[yt h2,kH (show i<a.length by omega),vaE]
  ·have e1:=kH (show i<a.length by omega);have e2:=kH (show k<b.length by omega);rcases Cf (trD a i).s (trD b k).s with h|h|h
   ·refine .inr (.inr (.inl ⟨oo,oo,h,?_⟩));rw[e1,e2,qaa,if_pos h]
   ·refine .inr (.inr (.inr (.inr (.inr ⟨oo,oo,h,?_⟩))));rw[e1,e2,qaa,if_neg oo,if_neg oo]
   ·refine .inr (.inr (.inr (.inr (.inl ⟨oo,oo,h,?_⟩))));rw[e1,e2,qaa,if_neg oo,if_pos h]
abbrev OX(W:World)(n0:Nat)(p:En)(c:Nat)(l:List OTm):Prop:=W.ownsRow n0 34 3 (.slice p l.length c) l.length (zm (jS l))
theorem OX.uat{W:World}{n0:Nat}{p:En}{c:Nat}{l:List OTm}(h:OX W n0 p c l):UAt 34 W p (jS l):=yaG h (zaw l)
theorem OX.nil(W:World)(n0:Nat):OX W n0 none 0 []:=⟨rfl,.inl ⟨rfl,rfl⟩⟩
theorem OX.later{W W':World}{n0:Nat}{p:En}{c:Nat}{l:List OTm}(h:OX W n0 p c l)(hB:Below W.heap.size W W'):OX W' n0 p c l:=jN h hB
abbrev Dw:=@OX.later
theorem ybb(l:List OTm)(t:OTm):zm (jS (l++[t]))=zm (jS l)++[.int .i64 (t.s:Int),.string (o1 t.x),.string (o2 t.x)]:=by
 rw[kb4,qM];rfl
theorem jbc{ops:Array Oper}{rest:List Oper}{o:Oper}{a:Act}{Q:Exit->Act->World->Prop}{w:World}(hgd:o.guard=none)(s x:Operand)
  (ho:o.op=.call { callee:=.builtin .append,args:=#[s,x],argTypes:=#[24,24] }) (n0:Nat) (p:En) (c:Nat) (l:List OTm) (t:OTm) (hs:a.eval s=.slice p l.length c) (hown:OX w n0 p c l)
  (B:Nat) (hx:a.eval x=.slice (some ⟨B,0,none⟩) 1 1) (hr:Row w B (.cells #[.int .i64 (t.s:Int),.string (o1 t.x),.string (o2 t.x)] 34)) (hl:l.length<=200000) (hbase:n0<=w.heap.size)
  (h:∀ p' c' w',OX w' n0 p' c' (l++[t])->w.grownBy w' (Value.slice p l.length c).ownBlock->wpList prog ops Q rest (a.put o.dst (.slice p' (l++[t]).length c')) w'):wpList prog ops Q (o :: rest) a w:=by
 obtain⟨i0,hi,hz0,hz1,hz2⟩:=info_parts qao;refine jr _ hgd s x 24 ho n0 34 i0 (.agg #[.int .i64 0,.string ⟨#[]⟩,.string ⟨#[]⟩]) 3 40 underlying24 hi hz0 hz1 hz2 rfl dd (.slice p l.length c) l.length (zm (jS l)) hs hown (B+1) (some ⟨B,0,none⟩) 1 1
  [.int .i64 (t.s:Int),.string (o1 t.x),.string (o2 t.x)] hx ?_ ?_ (by unfold maxLen;omega) oo hbase ?_
 ·refine⟨rfl,fun _=>⟨_,rfl,Nat.lt_succ_self _,fun j u hu => ?_⟩⟩;have:=Row.cell_lit' hr j (v:=u) (by rw[<- hu];simp);rcases Az j with rfl|hj
  ·simpa[Addr.add]using this
  ·simpa[Addr.add,Nat.ne_of_gt hj]using this
 ·intro u hu;simp only[Bd,Bf,or_false]at hu;rcases hu with rfl|rfl|rfl<;>rfl
 ·intro v' w' hown' hg;obtain⟨p',c',rfl⟩:=zh hown';have hlen:(l++[t]).length=l.length+1:=by simp
  rw[<- ybb]at hown';have ho2:OX w' n0 p' c' (l++[t]):=by unfold OX;rw[hlen];exact hown'
  have:=h p' c' w' ho2 hg;rw[hlen]at this;exact this
end Go.Proofs.YtdiecekagiledaaGreatDoor
