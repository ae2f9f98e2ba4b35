/- The affine laws and their reference: indices, fractions, values and sources. -/
import Derived.Test.YtdiecekagiledaaGreatDoorVASame
import Derived.Test.YtdiecekagiledaaGreatDoorVRQ
set_option linter.unusedSimpArgs false
set_option linter.unusedVariables false
set_option maxRecDepth 100000
set_option maxHeartbeats 16000000
namespace Go.Proofs.YtdiecekagiledaaGreatDoor
open Go Go.RowKit Go.Lib Go.Shelf Go.Proofs.Tryz
attribute [local go_sem] yg
theorem zco(c n:Int)(hc:jo c)(hn:0<n)(w:World):Calls prog 53 #[.int .i64 c,.int .i64 n] w fun e w'=>e=.returned (.int .i64 (pk c n))/\Aa w w':=by
 obtain⟨c0,c1⟩:=hc;have nz:¬ n=0:=oo
 by_cases h:c<0
 ·have e : -((c+1).tmod n)=pk c n:=by unfold pk;rw[if_pos h,<- Int.neg_tmod,Ds oo]
  have E:=hid e;clear e;go_enter func53,ntmps53;go_wp2;go_ret;refine⟨?_,Au _ _⟩;rw[<- E.out];rfl
 ·have e:c.tmod n=pk c n:=by unfold pk;rw[if_neg h,Ds oo]
  have E:=hid e;clear e;go_enter func53,ntmps53;go_wp2;go_ret;refine⟨?_,Au _ _⟩;rw[<- E.out]
  first|rfl|(rw[Ds oo];rfl)
theorem vcD{n d:Int}(hn:jo n)(hd:jo d)(hd0:0<d)(w:World):Calls prog 26 #[.int .i64 n,.int .i64 d] w (QIs (Rat.divInt n d) w):=by
 have hB:=Ab w;have M:=fun W=>jcK hn hd hd0 W
 unfold QOk Q at M;unfold QIs Q;generalize Rat.divInt n d=q at *;clear hn hd hd0;go_enter func26,ntmps26;go_wp2_with fail;have d0_o:w.heap.size<=w.heap.size:=by have:=hB.size;omega
 have sB:=hB.size;refine za (fun X=>Aa w X/\Row X w.heap.size oR0) ⟨BW,RW8⟩ ?_;clear hB sB;rintro V1⟨hB,ro⟩;have so:=vd ro;refine(M _).mono ?_;rintro e W2⟨rfl,h1⟩;have stp:=St1 hB h1 ro;clear hB h1 ro so;obtain⟨hB,ro⟩:=stp;have so:=vd ro;go_wp2_with fail;have sB:=hB.size;refine vc (fun X=>Aa w X/\Row X w.heap.size (oR q)) ⟨BW,RW8⟩ ?_;clear ro so hB sB;rintro V3⟨hB,ro⟩;have so:=vd ro;refine bodyPost_ret (v:=Ac q) ?res rfl ⟨rfl,hB⟩
 case res=>simp[results,results26,go_sem,so]
theorem jb6(x:Nat->Int){i:Nat}(hi:i<6):(#[.int .i64 (x 0),.int .i64 (x 1),.int .i64 (x 2),.int .i64 (x 3),.int .i64 (x 4),.int .i64 (x 5)]:Array Value)[i]? = some (.int .i64 (x i)):=by
 rcases(show i=0\/i=1\/i=2\/i=3\/i=4\/i=5 by omega)with rfl|rfl|rfl|rfl|rfl|rfl<;>rfl
def zbM(T:TypeId)(l:List Trm)(w:World)(e:Ending)(w':World):Prop:=∃ p c,TAt T w' p l/\l.length<=c/\e=.returned (.slice p l.length c)/\Aa w w'
theorem qcF{W:World}{n0 k m c n:Nat}{T:TypeId}{p:En}{xs:List Value}(h:W.ownsRow n0 T k (.slice p m c) n xs):m<=c:=by
 rcases h.2 with⟨e,_⟩|⟨g,cap,cur,e,_,_,h1,_⟩<;>(injection e with _ e1 e2;omega)
abbrev OTT(T:TypeId)(W:World)(n0:Nat)(p:En)(c:Nat)(l:List Trm):Prop:=W.ownsRow n0 T 3 (.slice p l.length c) l.length (zm (kN l))
theorem OTT.later{T:TypeId}{W W':World}{n0:Nat}{p:En}{c:Nat}{l:List Trm}(h:OTT T W n0 p c l)(hB:Below W.heap.size W W'):OTT T W' n0 p c l:=jN h hB
theorem vco(x:Nat->Int)(hx:∀ i,i<6->jo (x i))(w:World):Calls prog 20 #[.agg #[.int .i64 (x 0),.int .i64 (x 1),.int .i64 (x 2),.int .i64 (x 3),.int .i64 (x 4),.int .i64 (x 5)]] w (zbM 34 (vTo x 6) w):=by
 have hB:=Ab w;unfold zbM;go_enter func20,ntmps20;go_wp2_with fail;have sB:=hB.size;refine zi (fun X=>Aa w X/\Row X w.heap.size (.cells #[.int .i64 (x 0),.int .i64 (x 1),.int .i64 (x 2),.int .i64 (x 3),.int .i64 (x 4),.int .i64 (x 5)] 27)) ⟨BW,RW8⟩ ?_;clear hB sB;rintro V1⟨hB,rx⟩;have sx:=RF6 rx;clear sx;obtain⟨xs,hxs⟩:∃ z:Array Value,z=#[.int .i64 (x 0),.int .i64 (x 1),.int .i64 (x 2),.int .i64 (x 3),.int .i64 (x 4),.int .i64 (x 5)]:=⟨_,rfl⟩
 rw[<- hxs]at rx;have HXS:=hid hxs;clear hxs;go_loopw[3,4] (fun v3 v4 wr=>∃(i c:Nat) (p:En),v3=.slice p (vTo x i).length c/\v4=.int .i64 (i:Int)/\i<=6/\OTT 34 wr (w.heap.size+1) p c (vTo x i)/\Aa w wr/\Row wr w.heap.size (.cells xs 27)) (fun _ v4 _=>(6-RowKit.intOf v4).toNat)
 case atStart=>exact⟨0,0,none,rfl,rfl,oo,⟨rfl,.inl ⟨rfl,rfl⟩⟩,hB,rx⟩
 case round =>
  clear hB rx;obtain⟨i,c,p,rfl,rfl,hi6,hown,hB,rx⟩:=hrel;rcases AJ i 6 with hlt|hge
  ·have hxi:xs[i]? = some (.int .i64 (x i)):=by rw[HXS.out];exact jb6 x hlt
   have hiI:(i:Int)<6:=oo
   have hlen:(vTo x i).length=i:=vb8 x i;have hl2:(vTo x i).length<=200000:=oo
   have hsuc:=qcs x i;have MP:=fun W=>zco (x i) 17 (hx i hlt) dd W
   have a1:=qC (x i) (n:=17) dd;have a2:=jaW (x i) (n:=17) dd;generalize pk (x i) 17=k at *;have MO:=fun W=>jcK (n:=k-8) (d:=8) ⟨oo,oo⟩ dd dd W
   unfold QOk Q at MO;generalize Rat.divInt (k-8) 8=q at *;have hs:((i+1:Nat):Int)=1+(i:Int):=oo
   have HSUC:=hid hsuc;have HLEN:=hid hlen;clear hsuc hlen;have Fx:∀ X,Row X w.heap.size (.cells xs 27)->(w.heap.size<X.heap.size/\X.cell? ⟨w.heap.size,i,none⟩=some (.int .i64 (x i))):=fun X h=>⟨h.1,Af h _ hxi⟩
   have sx:=Fx _ rx;go_wp2_with fail;refine(MP _).mono ?_;rintro e W2⟨rfl,h1⟩;replace hown:=OTT.later hown h1;have stp:=St1 hB h1 rx;clear hB h1 rx sx;obtain⟨hB,rx⟩:=stp;have sx:=Fx _ rx;go_wp2_with fail;refine(MO _).mono ?_;rintro e W3⟨rfl,h1⟩;replace hown:=OTT.later hown h1;have stp:=St1 hB h1 rx;clear hB h1 rx sx;obtain⟨hB,rx⟩:=stp;have sx:=Fx _ rx;go_upto_region 6 with fail;have dx_r:w.heap.size<W3.heap.size:=oo
   have d0_r:w.heap.size<=W3.heap.size:=by have:=hB.size;omega
   have sB:=hB.size;refine zi (fun X=>Aa w X/\Row X w.heap.size (.cells xs 27)/\Row X W3.heap.size (oR q)/\OTT 34 X (w.heap.size+1) p c (vTo x i)) ⟨BW,RW8,RW8,OW⟩ ?_;clear rx sx hB sB hown;rintro V4⟨hB,rx,rr,hown⟩;have sx:=Fx _ rx;have sr:=vd rr;go_wp2_with (at_builtin;refine kF rfl (.tmp 20) (.tmp 25) rfl (w.heap.size+1) p c (vTo x i) ⟨i+1,q⟩ rfl (World.ownsRow.alloc hown _) _ rfl (by rw[hs];exact qp _ _) hl2 (by simp;have:=hB.size;omega) ?_;intro p' c' W7 hown' hg';replace rx:=zj (World.ownsRow.alloc hown _) hg' (AN rx _) oo;replace hB:=Below.grown (hB.alloc hB.size _) hg' (by simp;have:=hB.size;omega) (fun k hk=>by have:=(World.ownsRow.lt hown k hk).1;omega);clear hg' hown);go_wp2;go_roundw
   case rel=>exact⟨i+1,c',p',by rw[HSUC.out];simp only[AQ,AE,Bh,Bj],by go_num,oo,by rw[HSUC.out];exact hown',BW,rx⟩
   case measure=>exact El
  ·obtain rfl:i=6:=oo
   go_wp2;go_ret;exact⟨p,c,yaG hown (kf _),qcF hown,rfl,hB⟩
theorem jcW{c0 r0:Int}(hc:jo c0)(hr:jo r0)(x:Nat->Int)(hx:∀ i,i<6->jo (x i))(w:World):Calls prog 31 #[.int .i64 c0,.int .i64 r0,.agg #[.int .i64 (x 0),.int .i64 (x 1),.int .i64 (x 2),.int .i64 (x 3),.int .i64 (x 4),.int .i64 (x 5)]] w (FIs (zaF c0 r0 x) w):=by
 have hB:=Ab w;have P1:=fun W=>zco c0 161 hc dd W
 have a1:=qC c0 (n:=161) dd;have a2:=jaW c0 (n:=161) dd;have P2:=fun W=>zco r0 9 hr dd W
 have b1:=qC r0 (n:=9) dd;have b2:=jaW r0 (n:=9) dd;unfold FIs FV zaF;generalize pk c0 161=kc at *;generalize pk r0 9=kr at *;have O1:=fun W=>jcK (n:=kc-80) (d:=4) ⟨oo,oo⟩ dd dd W
 have O2:=fun W=>jcK (n:=kr) (d:=4) ⟨oo,oo⟩ dd dd W
 unfold QOk Q at O1 O2;generalize Rat.divInt (kc-80) 4=qc at *;generalize Rat.divInt kr 4=qr at *;clear hc hr;go_enter func31,ntmps31;go_wp2_with fail;have d0_o:w.heap.size<=w.heap.size+1:=by have:=hB.size;omega
 have d0_f:w.heap.size<=w.heap.size+1+1:=by have:=hB.size;omega
 have sB:=hB.size;refine za (fun X=>Aa w X/\Row X w.heap.size (.cells #[.int .i64 (x 0),.int .i64 (x 1),.int .i64 (x 2),.int .i64 (x 3),.int .i64 (x 4),.int .i64 (x 5)] 27)/\Row X (w.heap.size+1) oF0/\Row X (w.heap.size+1+1) oF0) ⟨BW,RW8,RW8,RW8⟩ ?_;clear hB sB;rintro V1⟨hB,rx,ro,rf⟩;have sx:=RF6 rx;have so:=kd ro;have sf:=kd rf;refine(P1 _).mono ?_;rintro e W2⟨rfl,h1⟩;have stp:=St3 hB h1 rx ro rf;clear hB h1 rx sx ro so rf sf;obtain⟨hB,rx,ro,rf⟩:=stp;have sx:=RF6 rx;have so:=kd ro;have sf:=kd rf;go_wp2_with fail;refine(O1 _).mono ?_;rintro e W3⟨rfl,h1⟩;have stp:=St3 hB h1 rx ro rf;clear hB h1 rx sx ro so rf sf;obtain⟨hB,rx,ro,rf⟩:=stp;have sx:=RF6 rx;have so:=kd ro;have sf:=kd rf;go_wp2_with fail;have sB:=hB.size;refine za (kp2 hB rx ro fun X=>Row X (w.heap.size+1+1) (.cells #[.string (S qc.num),.string (S (qc.den:Int)),.slice none 0 0,.string ⟨#[]⟩,.string ⟨#[]⟩] 26)) ⟨BW,RW8,RW8,RW8⟩ ?_;unfold kp2;clear rx sx ro so rf sf hB sB;rintro V4⟨hB,rx,ro,rf⟩;have sx:=RF6 rx;have so:=kd ro;have sf:=kd rf;refine(P2 _).mono ?_;rintro e W5⟨rfl,h1⟩;have stp:=St3 hB h1 rx ro rf;clear hB h1 rx sx ro so rf sf;obtain⟨hB,rx,ro,rf⟩:=stp;have sx:=RF6 rx;have so:=kd ro;have sf:=kd rf;go_wp2_with fail;refine(O2 _).mono ?_;rintro e W6⟨rfl,h1⟩;have stp:=St3 hB h1 rx ro rf;clear hB h1 rx sx ro so rf sf;obtain⟨hB,rx,ro,rf⟩:=stp;have sx:=RF6 rx;have so:=kd ro;have sf:=kd rf;go_wp2_with fail;have sB:=hB.size;refine zi (kp2 hB rx ro fun X=>Row X (w.heap.size+1+1) (oF qc qr none 0 0)) ⟨BW,RW8,RW8,RW8⟩ ?_;unfold kp2
 clear rx sx ro so rf sf hB sB;rintro V7⟨hB,rx,ro,rf⟩;have sx:=RF6 rx;have so:=kd ro;have sf:=kd rf;clear sx so sf;obtain⟨xs,hxs⟩:∃ z:Array Value,z=#[.int .i64 (x 0),.int .i64 (x 1),.int .i64 (x 2),.int .i64 (x 3),.int .i64 (x 4),.int .i64 (x 5)]:=⟨_,rfl⟩
 rw[<- hxs]at rx;have HXS:=hid hxs;clear hxs a1 a2 b1 b2;have lf:=rf.1;have lo_:=ro.1;have lx:=rx.1;obtain⟨n0,hn0e⟩:∃ z,z=V7.heap.size:=⟨_,rfl⟩
 have hbf0:w.heap.size+1+1<n0:=oo
 have hbx0:w.heap.size<n0:=oo
 have hbo0:w.heap.size+1<n0:=oo
 have hn0:n0<=V7.heap.size:=oo
 clear lf lo_ lx hn0e;go_loopw[8] (fun v8 wr=>∃(i c:Nat) (p:En),v8=.int .i64 (i:Int)/\i<=6/\OT wr n0 p c (mTo x i)/\n0<=wr.heap.size/\Aa w wr/\Row wr w.heap.size (.cells xs 27)/\Row wr (w.heap.size+1) oF0/\Row wr (w.heap.size+1+1) (.cells #[.string (S qc.num),.string (S (qc.den:Int)),.slice p (mTo x i).length c,.string (S qr.num),.string (S (qr.den:Int))] 26)) (fun v8 _=>(6-RowKit.intOf v8).toNat)
 case atStart=>exact⟨0,0,none,rfl,oo,OT.nil _ _,hn0,hB,rx,ro,rf⟩
 case round =>
  clear hB rx ro rf hn0;obtain⟨i,c,p,rfl,hi6,hown,hn0,hB,rx,ro,rf⟩:=hrel;rcases AJ i 6 with hlt|hge
  ·have hxi:xs[i]? = some (.int .i64 (x i)):=by rw[HXS.out];exact jb6 x hlt
   have hiI:(i:Int)<6:=oo
   have hl5:=jbj x i;have hl2:(mTo x i).length<=200000:=oo
   have MP:=fun W=>zco (x i) 17 (hx i hlt) dd W
   have a1:=qC (x i) (n:=17) dd;have a2:=jaW (x i) (n:=17) dd;have hsuc:mTo x (i+1)=if pk (x i) 17-8≠0/\(mTo x i).length<5 then mTo x i++[⟨i+1,Rat.divInt (pk (x i) 17-8) 4⟩] else mTo x i:=rfl
   generalize pk (x i) 17=k at *;have MO:=fun W=>jcK (n:=k-8) (d:=4) ⟨oo,oo⟩ dd dd W
   unfold QOk Q at MO;generalize Rat.divInt (k-8) 4=q at *;have hs:((i+1:Nat):Int)=1+(i:Int):=oo
   obtain⟨g,hg⟩:∃ g,k-8=g:=⟨_,rfl⟩
   rw[hg]at hsuc MO;have HSUC:=hid hsuc;clear hsuc;have Fx:∀ X,Row X w.heap.size (.cells xs 27)->(w.heap.size<X.heap.size/\X.cell? ⟨w.heap.size,i,none⟩=some (.int .i64 (x i))):=fun X h=>⟨h.1,Af h _ hxi⟩
   have sx:=Fx _ rx;have so:=kd ro;have sf:=kd rf;go_wp2_with fail;refine(MP _).mono ?_;rintro e W8⟨rfl,h1⟩;replace hown:=BV hown h1;replace hn0:=jal hn0 h1;have stp:=St3 hB h1 rx ro rf;clear hB h1 rx sx ro so rf sf;obtain⟨hB,rx,ro,rf⟩:=stp;have sx:=Fx _ rx;have so:=kd ro;have sf:=kd rf;by_cases hz:g=0
   ·have HZ:=hid hz;subst hz;have hsame:mTo x (i+1)=mTo x i:=by rw[HSUC.out,if_neg (fun h=>h.1 rfl)]
    go_wp2;go_roundw
    case rel=>exact⟨i+1,c,p,by go_num,oo,by rw[hsame];exact OW,(by first|omega|(simp;omega)),BW,RW8,RW8,by rw[hsame];exact RW8⟩
    case measure=>exact El
   ·have hzb:(g==0)=false:=beq_eq_false_iff_ne.2 hz;rcases AJ (mTo x i).length 5 with h5|h5
    ·have h5I:((mTo x i).length:Int)<5:=oo
     have happ:mTo x (i+1)=mTo x i++[⟨i+1,q⟩]:=by rw[HSUC.out,if_pos ⟨hz,h5⟩]
     have HAPP:=hid happ;clear happ;go_wp2_with fail;refine(MO _).mono ?_;rintro e W9⟨rfl,h1⟩;replace hown:=BV hown h1;replace hn0:=jal hn0 h1;have stp:=St3 hB h1 rx ro rf;clear hB h1 rx sx ro so rf sf;obtain⟨hB,rx,ro,rf⟩:=stp;have sx:=Fx _ rx;have so:=kd ro;have sf:=kd rf;go_upto_region 10 with fail;have dx_r:w.heap.size<W9.heap.size:=oo
     have do_r:w.heap.size+1<W9.heap.size:=oo
     have df_r:w.heap.size+1+1<W9.heap.size:=oo
     have d0_r:w.heap.size<=W9.heap.size:=by have:=hB.size;omega
     have sB:=hB.size;refine zi (fun X=>Aa w X/\Row X w.heap.size (.cells xs 27)/\Row X (w.heap.size+1) oF0/\Row X (w.heap.size+1+1) (.cells #[.string (S qc.num),.string (S (qc.den:Int)),.slice p (mTo x i).length c,.string (S qr.num),.string (S (qr.den:Int))] 26)/\Row X W9.heap.size (oR q)/\OT X n0 p c (mTo x i)/\n0<=X.heap.size) ⟨BW,RW8,RW8,RW8,RW8,OW,(by first|omega|(simp;omega))⟩ ?_;clear rx sx ro so rf sf hB sB hown hn0;rintro V10⟨hB,rx,ro,rf,rr,hown,hn0⟩;have sx:=Fx _ rx;have so:=kd ro;have sf:=kd rf;have sr:=vd rr;go_wp2_with (at_builtin;refine kF rfl (.tmp 51) (.tmp 56) rfl n0 p c (mTo x i) ⟨i+1,q⟩ rfl (World.ownsRow.alloc hown _) _ rfl (by rw[hs];exact qp _ _) hl2 (by simp;omega) ?_;intro p' c' W7 hown' hg';replace rx:=zj (World.ownsRow.alloc hown _) hg' (AN rx _) oo;replace ro:=zj (World.ownsRow.alloc hown _) hg' (AN ro _) oo;replace rf:=zj (World.ownsRow.alloc hown _) hg' (AN rf _) oo;replace hB:=Below.grown (hB.alloc hB.size _) hg' (by simp;have:=hB.size;omega) (fun k hk=>by have:=(World.ownsRow.lt hown k hk).1;omega);have hn7:n0<=W7.heap.size:=Bb (by simp;omega) hg'.size;clear hg' hown hn0;have sf:=kd rf);go_wp2;go_roundw
     case rel=>exact⟨i+1,c',p',by go_num,oo,by rw[HAPP.out];exact kaa hown' rf yar 2 _,(by simp;omega),BW,RW8,RW8,by rw[HAPP.out];simp only[AQ,AE,Bh,Bj];exact RW8⟩
     case measure=>exact El
    ·have h5I:¬ ((mTo x i).length:Int)<5:=oo
     have hsame:mTo x (i+1)=mTo x i:=by rw[HSUC.out,if_neg (fun h=>absurd h.2 oo)]
     go_wp2;go_roundw
     case rel=>exact⟨i+1,c,p,by go_num,oo,by rw[hsame];exact OW,(by first|omega|(simp;omega)),BW,RW8,RW8,by rw[hsame];exact RW8⟩
     case measure=>exact El
  ·obtain rfl:i=6:=oo
   have Fx:∀ X,Row X w.heap.size (.cells xs 27)->(w.heap.size<X.heap.size):=fun X h=>h.1
   have sx:=Fx _ rx;have so:=kd ro;have sf:=kd rf;go_wp2_with fail;clear Fx;have sB:=hB.size;refine vc (fun X=>Aa w X/\Row X (w.heap.size+1) (.cells #[.string (S qc.num),.string (S (qc.den:Int)),.slice p (mTo x 6).length c,.string (S qr.num),.string (S (qr.den:Int))] 26)/\OT X n0 p c (mTo x 6)) ⟨BW,RW8,OW⟩ ?_;clear rx sx ro so rf sf hB sB hown;rintro V8⟨hB,ro,hown⟩;have so:=kd ro;refine bodyPost_ret (v:=.agg #[.string (S qc.num),.string (S (qc.den:Int)),.slice p (mTo x 6).length c,.string (S qr.num),.string (S (qr.den:Int))]) ?res rfl ⟨p,c,OT.tat hown,rfl,hB⟩
   case res=>simp[results,results31,go_sem,so]
theorem ybx{T:TypeId}{W:World}{g:Nat}{a b:Rat}(h:Row W g (.cells #[.int .i64 1,.string (S a.num),.string (S (a.den:Int)),.int .i64 2,.string (S b.num),.string (S (b.den:Int))] T)):TAt T W (some ⟨g,0,none⟩) [⟨1,a⟩,⟨2,b⟩] :=
 .inr ⟨g,_,rfl,h,rfl⟩
theorem vb6{T:TypeId}{W:World}{g:Nat}{a:Rat}(h:Row W g (.cells #[.int .i64 1,.string (S a.num),.string (S (a.den:Int))] T)):TAt T W (some ⟨g,0,none⟩) [⟨1,a⟩] :=
 .inr ⟨g,_,rfl,h,rfl⟩
def qn(n d:Int)(q:Rat):Prop:=∀ W:World,Calls prog 26 #[.int .i64 n,.int .i64 d] W (QIs q W)
theorem vU{n d:Int}{q:Rat}(h:Rat.divInt n d=q)(hn:jo n)(hd:jo d)(hd0:0<d):qn n d q:=by
 subst h;exact fun W=>vcD hn hd hd0 W
def vcK(a b:Frm)(w:World)(e:Ending)(w':World):Prop:=∃ p q c d,TAt 34 w' p a.t/\TAt 34 w' q b.t/\e=.returned (.tuple #[FV a p c,FV b q d])/\Aa w w'
theorem ybN{q10 q1 qh q0 q4 q2:Rat}(M10:qn 10 1 q10)(M1:qn 1 1 q1)(Mh:qn 1 2 qh)(M0:qn 0 1 q0)(M4:qn 4 1 q4)(M2:qn 2 1 q2)(w:World):Calls prog 25 #[] w (vcK ⟨q10,[⟨1,q1⟩,⟨2,qh⟩],q0⟩ ⟨q4,[⟨1,q2⟩],q0⟩ w):=by
 have hB:=Ab w;unfold qn QIs Q at *;unfold vcK FV;go_enter func25,ntmps25;go_wp2_with fail;have d0_o1:w.heap.size<=w.heap.size:=by have:=hB.size;omega
 have d0_o2:w.heap.size<=w.heap.size+1:=by have:=hB.size;omega
 have sB:=hB.size;refine za (fun X=>Aa w X/\Row X w.heap.size oF0/\Row X (w.heap.size+1) oF0) ⟨BW,RW8,RW8⟩ ?_;clear hB sB;rintro V1⟨hB,ro1,ro2⟩;have so1:=kd ro1;have so2:=kd ro2;refine(M10 _).mono ?_;rintro e W2⟨rfl,h1⟩;have stp:=St2 hB h1 ro1 ro2;clear hB h1 ro1 so1 ro2 so2;obtain⟨hB,ro1,ro2⟩:=stp;have so1:=kd ro1;have so2:=kd ro2;go_wp2_with fail;refine(M1 _).mono ?_;rintro e W3⟨rfl,h1⟩;have stp:=St2 hB h1 ro1 ro2;clear hB h1 ro1 so1 ro2 so2;obtain⟨hB,ro1,ro2⟩:=stp;have so1:=kd ro1;have so2:=kd ro2;go_wp2_with fail;refine(Mh _).mono ?_;rintro e W4⟨rfl,h1⟩;have stp:=St2 hB h1 ro1 ro2;clear hB h1 ro1 so1 ro2 so2;obtain⟨hB,ro1,ro2⟩:=stp;have so1:=kd ro1;have so2:=kd ro2;go_wp2_with fail;have do1_b2:w.heap.size<W4.heap.size:=oo
 have do2_b2:w.heap.size+1<W4.heap.size:=oo
 have sB:=hB.size;refine za (kp2 hB ro1 ro2 fun X=>Row X W4.heap.size (.cells #[.int .i64 1,.string (S q1.num),.string (S (q1.den:Int)),.int .i64 2,.string (S qh.num),.string (S (qh.den:Int))] 34)) ⟨BW,RW8,RW8,RW8⟩ ?_;unfold kp2;clear ro1 so1 ro2 so2 hB sB;rintro V5⟨hB,ro1,ro2,rb2⟩;have so1:=kd ro1;have so2:=kd ro2;have sb2:=RF6 rb2;refine(M0 _).mono ?_;rintro e W6⟨rfl,h1⟩;have stp:=St3 hB h1 ro1 ro2 rb2;clear hB h1 ro1 so1 ro2 so2 rb2 sb2;obtain⟨hB,ro1,ro2,rb2⟩:=stp;have so1:=kd ro1;have so2:=kd ro2;have sb2:=RF6 rb2;go_wp2_with fail;have do1_a:w.heap.size<W6.heap.size:=oo
 have do2_a:w.heap.size+1<W6.heap.size:=oo
 have sB:=hB.size;refine za (kp3 hB ro1 ro2 rb2 fun X=>Row X W6.heap.size (oF q10 q0 (some ⟨W4.heap.size,0,none⟩) 2 2)) ⟨BW,RW8,RW8,RW8,RW8⟩ ?_;unfold kp3;clear ro1 so1 ro2 so2 rb2 sb2 hB sB;rintro V7⟨hB,ro1,ro2,rb2,ra⟩;have so1:=kd ro1;have so2:=kd ro2;have sb2:=RF6 rb2;have sa:=RF5 ra;refine(M4 _).mono ?_;rintro e W8⟨rfl,h1⟩;have stp:=St4 hB h1 ro1 ro2 rb2 ra;clear hB h1 ro1 so1 ro2 so2 rb2 sb2 ra sa;obtain⟨hB,ro1,ro2,rb2,ra⟩:=stp;have so1:=kd ro1;have so2:=kd ro2;have sb2:=RF6 rb2;have sa:=RF5 ra;go_wp2_with fail;refine(M2 _).mono ?_;rintro e W9⟨rfl,h1⟩;have stp:=St4 hB h1 ro1 ro2 rb2 ra;clear hB h1 ro1 so1 ro2 so2 rb2 sb2 ra sa;obtain⟨hB,ro1,ro2,rb2,ra⟩:=stp;have so1:=kd ro1;have so2:=kd ro2;have sb2:=RF6 rb2;have sa:=RF5 ra;go_wp2_with fail;have do1_b4:w.heap.size<W9.heap.size:=oo
 have do2_b4:w.heap.size+1<W9.heap.size:=oo
 have sB:=hB.size;refine za (kp4 hB ro1 ro2 rb2 ra fun X=>Row X W9.heap.size (oT 1 q2)) ⟨BW,RW8,RW8,RW8,RW8,RW8⟩ ?_;unfold kp4;clear ro1 so1 ro2 so2 rb2 sb2 ra sa hB sB;rintro V10⟨hB,ro1,ro2,rb2,ra,rb4⟩;have so1:=kd ro1;have so2:=kd ro2;have sb2:=RF6 rb2;have sa:=RF5 ra;have sb4:=RF3 rb4;refine(M0 _).mono ?_;rintro e W11⟨rfl,h1⟩;have stp:=St5 hB h1 ro1 ro2 rb2 ra rb4;clear hB h1 ro1 so1 ro2 so2 rb2 sb2 ra sa rb4 sb4;obtain⟨hB,ro1,ro2,rb2,ra,rb4⟩:=stp;have so1:=kd ro1;have so2:=kd ro2;have sb2:=RF6 rb2;have sa:=RF5 ra;have sb4:=RF3 rb4;go_wp2_with fail;have do1_b:w.heap.size<W11.heap.size:=oo
 have do2_b:w.heap.size+1<W11.heap.size:=oo
 have sB:=hB.size;refine zi (kp5 hB ro1 ro2 rb2 ra rb4 fun X=>Row X W11.heap.size (oF q4 q0 (some ⟨W9.heap.size,0,none⟩) 1 1)) ⟨BW,RW8,RW8,RW8,RW8,RW8,RW8⟩ ?_;unfold kp5;clear ro1 so1 ro2 so2 rb2 sb2 ra sa rb4 sb4 hB sB;rintro V12⟨hB,ro1,ro2,rb2,ra,rb4,rb⟩;have so1:=kd ro1;have so2:=kd ro2;have sb2:=RF6 rb2;have sa:=RF5 ra;have sb4:=RF3 rb4;have sb:=RF5 rb;go_region_with (first
   | fail)
 all_goals (
  go_wp2_with fail;have sB:=hB.size;refine vc (fun X=>Aa w X/\Row X w.heap.size (oF q10 q0 (some ⟨W4.heap.size,0,none⟩) 2 2)/\Row X (w.heap.size+1) (oF q4 q0 (some ⟨W9.heap.size,0,none⟩) 1 1)/\Row X W4.heap.size (.cells #[.int .i64 1,.string (S q1.num),.string (S (q1.den:Int)),.int .i64 2,.string (S qh.num),.string (S (qh.den:Int))] 34)/\Row X W6.heap.size (oF q10 q0 (some ⟨W4.heap.size,0,none⟩) 2 2)/\Row X W9.heap.size (oT 1 q2)/\Row X W11.heap.size (oF q4 q0 (some ⟨W9.heap.size,0,none⟩) 1 1)) ⟨BW,RW8,RW8,RW8,RW8,RW8,RW8⟩ ?_;clear ro1 so1 ro2 so2 rb2 sb2 ra sa rb4 sb4 rb sb hB sB;rintro V13⟨hB,ro1,ro2,rb2,ra,rb4,rb⟩;have so1:=kd ro1;have so2:=kd ro2;have sb2:=RF6 rb2;have sa:=RF5 ra;have sb4:=RF3 rb4;have sb:=RF5 rb;refine bodyPost_ret (v:=.tuple #[.agg #[.string (S q10.num),.string (S (q10.den:Int)),.slice (some ⟨W4.heap.size,0,none⟩) 2 2,.string (S q0.num),.string (S (q0.den:Int))],.agg #[.string (S q4.num),.string (S (q4.den:Int)),.slice (some ⟨W9.heap.size,0,none⟩) 1 1,.string (S q0.num),.string (S (q0.den:Int))]]) ?res rfl ⟨_,_,_,_,ybx rb2,vb6 rb4,rfl,hB⟩
  case res=>simp[results,results25,go_sem,so1,so2]
 )
theorem ycb(w:World):Calls prog 25 #[] w (vcK eA eB w) :=
 ybN (vU (by decide +kernel) dd dd dd) (vU (by decide +kernel) dd dd dd) (vU (by decide +kernel) dd dd dd) (vU (by decide +kernel) dd dd dd) (vU (by decide +kernel) dd dd dd) (vU (by decide +kernel) dd dd dd) w
end Go.Proofs.YtdiecekagiledaaGreatDoor
