/- Package rational: the multiples of a grid below and above a fraction. -/
import Derived.Test.YtdiecekagiledaaGreatDoorVEOps
import Derived.Test.YtdiecekagiledaaGreatDoorVRefO
set_option linter.unusedSimpArgs false
set_option linter.unusedVariables false
set_option maxRecDepth 100000
set_option maxHeartbeats 4000000
namespace Go.Proofs.YtdiecekagiledaaGreatDoor
open Go Go.RowKit Go.Lib Go.Shelf Go.Proofs.Tryz
theorem jaw:∀ p,zf (List.replicate p 0)=0
 | 0=>rfl
 | p+1=>by rw[DA];show 0+10*zf (List.replicate p 0)=0;rw[jaw p]
theorem ycC(p:Nat):Is ⟨(49 :: List.replicate p 48).toArray⟩ (TT p):=by
 have hs:Small10 (List.replicate p 0++[1]):=Small10.append (fun d hd=>by rw[(Df.1 hd).2];decide) (Du dd zo);have hn:Norm10 (List.replicate p 0++[1]):=⟨hs,by simp⟩
 have h:=zb8 false hn;rw[kbb false (by simp)]at h;have ht:yu (List.replicate p 0++[1])=49 :: List.replicate p 48:=by rw[zM];simp[yu]
 have hv:zf (List.replicate p 0++[1])=10^p:=by rw[jM,jaw,Do,Bj,Nat.one_mul]
 rw[ht,hv]at h;unfold Is TT;rw[List.toList_toArray];simpa[pre]using h
theorem qcX(p:Nat):(⟨#[49]⟩:ByteArray)++⟨(Lib.repeatL [48] p).toArray⟩=S (TT p):=by
 rw[<- (ycC p).eq,vP];apply ja2;simp[ByteArray.data_append]
theorem zX(s:ByteArray)(w:World):Calls prog 131 #[.string s,.int .i64 0] w fun e w'=>e=.returned (.string s)/\Aa w w':=by
 have hB:=Ab w;go_enter func131,ntmps131;go_wp2_with fail;refine(yw _).mono ?_;rintro e W1⟨rfl,h1⟩;replace hB:=Em hB h1;clear h1;go_wp2;go_ret;exact⟨rfl,hB⟩
theorem ycQ(p:Nat)(hp:p<=30)(w:World):Calls prog 127 #[.int .i64 (p:Int)] w fun e w'=>e=.returned (.agg #[.int .i64 (p:Int),.string (S (TT p))])/\Aa w w':=by
 have hB:=Ab w;have d1:decide ((0:Int)<=(p:Int))=true:=decide_eq_true oo;have d2:decide ((p:Int)<=30)=true:=decide_eq_true oo;have g1:(0:Int)<=(p:Int):=oo
 have g2:(p:Int)<=30:=oo
 have RP:=fun W=>Tryz.strings_Repeat ⟨#[48]⟩ p W oo (by simp[ByteArray.size];omega)
 have RPL:=hid (qcX p);go_enter func127,ntmps127;go_wp2_with fail;have sB:=hB.size;refine za (fun X=>Aa w X/\Row X w.heap.size (.cells #[.int .i64 0,.string ⟨#[]⟩] 141)) ⟨yJ,C2⟩ ?_;clear hB sB;rintro V1⟨hB,ro⟩;have so:=Av ro;refine(yw _).mono ?_;rintro e W2⟨rfl,h1⟩;clear so;replace hB:=Em hB h1;replace ro:=Ae ro h1;clear h1;have so:=Av ro;go_wp2_with fail;refine(RP _).mono ?_;rintro e W2⟨rfl,h1⟩;clear so;replace hB:=Em hB h1;replace ro:=Ae ro h1;clear h1;have so:=Av ro;obtain⟨z0,hz0⟩:∃ x:ByteArray,x=⟨(Lib.repeatL [48] p).toArray⟩:=⟨_,rfl⟩
 rw[<- hz0];have RR:((⟨#[49]⟩:ByteArray)++z0)=S (TT p):=by rw[hz0];exact RPL.out
 have zs:z0.size<=30:=by rw[hz0,vP];simp[ByteArray.size];omega
 clear hz0;go_wp2;have sB:=hB.size;refine vc (fun X=>Aa w X/\Row X w.heap.size (.cells #[.int .i64 (p:Int),.string (S (TT p))] 141)) ⟨yJ,zaP⟩ ?_;clear ro so hB sB;rintro V3⟨hB,ro⟩;have so:=Av ro;refine bodyPost_ret (v:=.agg #[.int .i64 (p:Int),.string (S (TT p))]) ?res rfl ⟨rfl,hB⟩
 case res=>simp[results,results127,go_sem,so]
theorem zas{q m:Int}(h:yz q m):0<=q/\0<=m/\IsRoot q.natAbs m.natAbs:=by
 obtain⟨h0,h1,h2⟩:=h;have hq:0<=q:=Int.le_trans (CZ h0 h0) h1;refine⟨hq,h0,?_⟩;obtain⟨Q,rfl⟩:∃ Q:Nat,q=Q:=⟨q.natAbs,oo⟩
 obtain⟨M,rfl⟩:∃ M:Nat,m=M:=⟨m.natAbs,oo⟩
 rw[Bo,Bo];exact⟨by exact_mod_cast h1,by exact_mod_cast h2⟩
theorem zav{q:Int}(h:0<=q):∃ m,yz q m:=by
 obtain⟨Q,rfl⟩:∃ Q:Nat,q=Q:=⟨q.natAbs,oo⟩
 obtain⟨r,h1,h2⟩:=ybg Q;exact⟨r,oo,by exact_mod_cast h1,by exact_mod_cast h2⟩
theorem qaw{r:Rat}{T:Int}(h:0<=r)(hT:0<T):0<=jy r T:=by
 unfold jy;refine Int.ediv_nonneg (CZ (CZ (Rat.num_nonneg.2 h) oo) oo) (by have:=den_pos r;omega)
def qaP(r:Rat)(T m:Int)(w:World)(e:Ending)(w':World):Prop:=∃ b:Bool,(b=true↔yW r T m)/\e=.returned (.tuple #[.string (S m),.bool b])/\Aa w w'
theorem kbB{j:Nat}(p:Nat)(r:Rat)(m:Int)(hr:QDig j r)(hp:p<=30)(hjp:j+p+p<=200)(hm:yz (jy r (TT p)) m)(hx:¬ r.num*TT p*TT p%(r.den:Int)=0)(w:World)(he:Env w) :
  Calls prog 130 #[.agg #[.int .i64 (p:Int),.string (S (TT p))],Q r] w (qaP r (TT p) m w):=by
 have hq:=hr.mono (show j<=200 by omega);have ia:=qq r.num;have id_:=qq (r.den:Int);have it:=qq (TT p);have fa:Fits r.num:=hq.1;have fd:Fits (r.den:Int):=hq.2;have ft:Fits (TT p):=(zae p).fits oo;obtain⟨n1,hn1⟩:∃ n,n=r.num*TT p:=⟨_,rfl⟩
 obtain⟨n,hn⟩:∃ n,n=n1*TT p:=⟨_,rfl⟩
 have dn1:Dig (j+p) n1:=by rw[hn1];exact vA hr.1
 have dn:Dig (j+p+p) n:=by rw[hn];exact vA dn1
 have fn1:=dn1.fits oo;have fn:=dn.fits oo;obtain⟨q,hqe⟩:∃ q,q=n/(r.den:Int):=⟨_,rfl⟩
 obtain⟨z,hz⟩:∃ z,z=n%(r.den:Int):=⟨_,rfl⟩
 have hQ:jy r (TT p)=q:=by unfold jy;rw[hqe,hn,hn1]
 have fq:Fits q:=by rw[hqe];exact(dn.ediv _).fits oo
 rw[hQ]at hm;have hroot:=hid (zas hm);have lm:=zV hm;have fm:Fits m:=(Fits.dig fq).of_le oo;have N1:=hid hn1.symm;have N2:=hid hn.symm;have N3:=hid hqe.symm;have N4:=hid hz.symm;have d0:=den_pos r;have D0:Hid ((r.den:Int)≠0):=hid oo;have in1:=qq n1;have in_:=qq n;have iq:=qq q;have im:=qq m;have hzr:z=r.num*TT p*TT p%(r.den:Int):=by rw[hz,hn,hn1]
 have X:Hid ¬ yW r (TT p) m:=hid (fun h=>hx (by rw[<- h.1]));have zz:((S z).toList==[48])=false:=kaA (by rw[hzr];exact hx);clear hx hn1 hn hqe hz hzr dn1 dn hQ hm lm d0;obtain⟨ra,rb,hB⟩:Row ((w.alloc (.cells #[.int .i64 (p:Int),.string (S (TT p))] 141)).alloc (.cells #[.string (S r.num),.string (S (r.den:Int))] 23)) w.heap.size (.cells #[.int .i64 (p:Int),.string (S (TT p))] 141)/\Row ((w.alloc (.cells #[.int .i64 (p:Int),.string (S (TT p))] 141)).alloc (.cells #[.string (S r.num),.string (S (r.den:Int))] 23)) (w.heap.size+1) (.cells #[.string (S r.num),.string (S (r.den:Int))] 23)/\Aa w ((w.alloc (.cells #[.int .i64 (p:Int),.string (S (TT p))] 141)).alloc (.cells #[.string (S r.num),.string (S (r.den:Int))] 23)):=by
  refine⟨C2,C2,?_⟩;have hB:=Au w.heap.size w;exact yJ
 have KK:∀ X,Row X w.heap.size (.cells #[.int .i64 (p:Int),.string (S (TT p))] 141)->Row X (w.heap.size+1) (.cells #[.string (S r.num),.string (S (r.den:Int))] 23)->(X.cell? ⟨w.heap.size,0,none⟩=some (.int .i64 (p:Int))/\X.cell? ⟨w.heap.size,1,none⟩=some (.string (S (TT p)))/\X.cell? ⟨w.heap.size+1,0,none⟩=some (.string (S r.num))/\X.cell? ⟨w.heap.size+1,1,none⟩=some (.string (S (r.den:Int)))):=fun X h1 h2=>⟨(Av h1).2.1,(Av h1).2.2.1,(Av h2).2.1,(Av h2).2.2.1⟩
 have M0:=fun W (h:Env W)=>qcu ia it N1 fa ft fn1 W h
 have M1:=fun W (h:Env W)=>qcu in1 it N2 fn1 ft fn W h
 have M2:=fun W=>zX (S n1) W
 have M3:=fun W=>zX (S n) W
 have M4:=fun W (h:Env W)=>ycJ in_ id_ N3 N4 fn fd D0 W h
 have M5:=fun W (h:Env W)=>jcG iq hroot fq W h
 have M6:=fun W=>zX (S m) W
 unfold vX at *;unfold yaK at M4;clear ia id_ it fa fd ft fn1 fn fq fm N1 N2 N3 N4 in1 in_ iq im hroot D0 hq hr;show Calls prog 130 #[.agg #[.int .i64 (p:Int),.string (S (TT p))],.agg #[.string (S r.num),.string (S (r.den:Int))]] w _;generalize S r.num=rn at *;generalize S (r.den:Int)=rd at *;generalize S (TT p)=st at *;generalize S n1=sn1 at *;generalize S n=sn at *;generalize S q=sq at *;generalize S z=sz at *;go_enter func130,ntmps130;go_wp2_with fail;generalize ((w.alloc (.cells #[.int .i64 (p:Int),.string st] 141)).alloc (.cells #[.string rn,.string rd] 23))=W0 at *;go_region_held3 (fun X=>X.cell? ⟨w.heap.size,0,none⟩=some (.int .i64 (p:Int))/\X.cell? ⟨w.heap.size,1,none⟩=some (.string st)/\X.cell? ⟨w.heap.size+1,0,none⟩=some (.string rn)/\X.cell? ⟨w.heap.size+1,1,none⟩=some (.string rd)) (first|exact KK _ kaK zcw) (first
   | (go_at_call 168;with_reducible refine(M0 _ (by first|exact he.below hB|exact he.below hB.drew|exact he.below (ze hB _))).mono ?_;rintro e W⟨rfl,h1⟩;(try replace h1:=qb h1);replace hB:=Em hB h1;replace ra:=Ae ra h1;replace rb:=Ae rb h1)
   | (go_at_call 168;with_reducible refine(M1 _ (by first|exact he.below hB|exact he.below hB.drew|exact he.below (ze hB _))).mono ?_;rintro e W⟨rfl,h1⟩;(try replace h1:=qb h1);replace hB:=Em hB h1;replace ra:=Ae ra h1;replace rb:=Ae rb h1)
   | (go_at_call 131;with_reducible refine(M2 _).mono ?_;rintro e W⟨rfl,h1⟩;(try replace h1:=qb h1);replace hB:=Em hB h1;replace ra:=Ae ra h1;replace rb:=Ae rb h1)
   | (go_at_call 131;with_reducible refine(M3 _).mono ?_;rintro e W⟨rfl,h1⟩;(try replace h1:=qb h1);replace hB:=Em hB h1;replace ra:=Ae ra h1;replace rb:=Ae rb h1))
 have sa:=Av ra;have sb:=Av rb;go_wp2_with fail;refine(M4 _ (he.below hB)).mono ?_;rintro e W1⟨rfl,h1⟩;clear sa sb;replace hB:=Em hB h1;replace ra:=Ae ra h1;replace rb:=Ae rb h1;clear h1;have sa:=Av ra;have sb:=Av rb;go_wp2_with fail;refine(yw _).mono ?_;rintro e W2⟨rfl,h1⟩;clear sa sb;replace hB:=Em hB h1;replace ra:=Ae ra h1;replace rb:=Ae rb h1;clear h1;have sa:=Av ra;have sb:=Av rb;go_wp2_with fail;refine(M5 _ (he.below hB)).mono ?_;rintro e W3⟨rfl,h1⟩;clear sa sb;replace hB:=Em hB h1;replace ra:=Ae ra h1;replace rb:=Ae rb h1;clear h1;have sa:=Av ra;have sb:=Av rb;go_wp2_with fail;refine(M6 _).mono ?_;rintro e W4⟨rfl,h1⟩;clear sa sb;replace hB:=Em hB h1;replace ra:=Ae ra h1;replace rb:=Ae rb h1;clear h1;have sa:=Av ra;have sb:=Av rb;go_wp2;go_ret2;exact⟨false,⟨fun h=>(by cases h),fun h=>absurd h X.out⟩,rfl,hB⟩
theorem zbg{j:Nat}(p:Nat)(r:Rat)(m:Int)(hr:QDig j r)(hp:p<=30)(hjp:j+p+p<=200)(hm:yz (jy r (TT p)) m)(hx:r.num*TT p*TT p%(r.den:Int)=0)(hs:m*m=jy r (TT p))(w:World)(he:Env w) :
  Calls prog 130 #[.agg #[.int .i64 (p:Int),.string (S (TT p))],Q r] w (qaP r (TT p) m w):=by
 have hq:=hr.mono (show j<=200 by omega);have ia:=qq r.num;have id_:=qq (r.den:Int);have it:=qq (TT p);have fa:Fits r.num:=hq.1;have fd:Fits (r.den:Int):=hq.2;have ft:Fits (TT p):=(zae p).fits oo;obtain⟨n1,hn1⟩:∃ n,n=r.num*TT p:=⟨_,rfl⟩
 obtain⟨n,hn⟩:∃ n,n=n1*TT p:=⟨_,rfl⟩
 have dn1:Dig (j+p) n1:=by rw[hn1];exact vA hr.1
 have dn:Dig (j+p+p) n:=by rw[hn];exact vA dn1
 have fn1:=dn1.fits oo;have fn:=dn.fits oo;obtain⟨q,hqe⟩:∃ q,q=n/(r.den:Int):=⟨_,rfl⟩
 obtain⟨z,hz⟩:∃ z,z=n%(r.den:Int):=⟨_,rfl⟩
 have hQ:jy r (TT p)=q:=by unfold jy;rw[hqe,hn,hn1]
 have fq:Fits q:=by rw[hqe];exact(dn.ediv _).fits oo
 rw[hQ]at hm;have hroot:=hid (zas hm);have lm:=zV hm;have fm:Fits m:=(Fits.dig fq).of_le oo;have N1:=hid hn1.symm;have N2:=hid hn.symm;have N3:=hid hqe.symm;have N4:=hid hz.symm;have d0:=den_pos r;have D0:Hid ((r.den:Int)≠0):=hid oo;have in1:=qq n1;have in_:=qq n;have iq:=qq q;have im:=qq m;have hzr:z=r.num*TT p*TT p%(r.den:Int):=by rw[hz,hn,hn1]
 have zz:((S z).toList==[48])=true:=qa1 (by rw[hzr];exact hx);have X:Hid (yW r (TT p) m):=hid ⟨hx,by rw[hQ];rw[hQ]at hs;exact hs⟩;rw[hQ]at hs;have MM:=hid hs;clear hs hx hn1 hn hqe hz hzr dn1 dn hQ hm lm d0;obtain⟨ra,rb,hB⟩:Row ((w.alloc (.cells #[.int .i64 (p:Int),.string (S (TT p))] 141)).alloc (.cells #[.string (S r.num),.string (S (r.den:Int))] 23)) w.heap.size (.cells #[.int .i64 (p:Int),.string (S (TT p))] 141)/\Row ((w.alloc (.cells #[.int .i64 (p:Int),.string (S (TT p))] 141)).alloc (.cells #[.string (S r.num),.string (S (r.den:Int))] 23)) (w.heap.size+1) (.cells #[.string (S r.num),.string (S (r.den:Int))] 23)/\Aa w ((w.alloc (.cells #[.int .i64 (p:Int),.string (S (TT p))] 141)).alloc (.cells #[.string (S r.num),.string (S (r.den:Int))] 23)):=by
  refine⟨C2,C2,?_⟩;have hB:=Au w.heap.size w;exact yJ
 have KK:∀ X,Row X w.heap.size (.cells #[.int .i64 (p:Int),.string (S (TT p))] 141)->Row X (w.heap.size+1) (.cells #[.string (S r.num),.string (S (r.den:Int))] 23)->(X.cell? ⟨w.heap.size,0,none⟩=some (.int .i64 (p:Int))/\X.cell? ⟨w.heap.size,1,none⟩=some (.string (S (TT p)))/\X.cell? ⟨w.heap.size+1,0,none⟩=some (.string (S r.num))/\X.cell? ⟨w.heap.size+1,1,none⟩=some (.string (S (r.den:Int)))):=fun X h1 h2=>⟨(Av h1).2.1,(Av h1).2.2.1,(Av h2).2.1,(Av h2).2.2.1⟩
 have M0:=fun W (h:Env W)=>qcu ia it N1 fa ft fn1 W h
 have M1:=fun W (h:Env W)=>qcu in1 it N2 fn1 ft fn W h
 have M2:=fun W=>zX (S n1) W
 have M3:=fun W=>zX (S n) W
 have M4:=fun W (h:Env W)=>ycJ in_ id_ N3 N4 fn fd D0 W h
 have M5:=fun W (h:Env W)=>jcG iq hroot fq W h
 have M6:=fun W=>zX (S m) W
 have M7:=fun W (h:Env W)=>qcu im im MM fm fm fq W h
 have M8:=fun W=>zX (S q) W
 unfold vX at *;unfold yaK at M4;clear ia id_ it fa fd ft fn1 fn fq fm N1 N2 N3 N4 in1 in_ iq im hroot D0 hq hr MM;show Calls prog 130 #[.agg #[.int .i64 (p:Int),.string (S (TT p))],.agg #[.string (S r.num),.string (S (r.den:Int))]] w _;generalize S r.num=rn at *;generalize S (r.den:Int)=rd at *;generalize S (TT p)=st at *;generalize S n1=sn1 at *;generalize S n=sn at *;generalize S q=sq at *;generalize S z=sz at *;go_enter func130,ntmps130;go_wp2_with fail;generalize ((w.alloc (.cells #[.int .i64 (p:Int),.string st] 141)).alloc (.cells #[.string rn,.string rd] 23))=W0 at *;go_region_held3 (fun X=>X.cell? ⟨w.heap.size,0,none⟩=some (.int .i64 (p:Int))/\X.cell? ⟨w.heap.size,1,none⟩=some (.string st)/\X.cell? ⟨w.heap.size+1,0,none⟩=some (.string rn)/\X.cell? ⟨w.heap.size+1,1,none⟩=some (.string rd)) (first|exact KK _ kaK zcw) (first
   | (go_at_call 168;with_reducible refine(M0 _ (by first|exact he.below hB|exact he.below hB.drew|exact he.below (ze hB _))).mono ?_;rintro e W⟨rfl,h1⟩;(try replace h1:=qb h1);replace hB:=Em hB h1;replace ra:=Ae ra h1;replace rb:=Ae rb h1)
   | (go_at_call 168;with_reducible refine(M1 _ (by first|exact he.below hB|exact he.below hB.drew|exact he.below (ze hB _))).mono ?_;rintro e W⟨rfl,h1⟩;(try replace h1:=qb h1);replace hB:=Em hB h1;replace ra:=Ae ra h1;replace rb:=Ae rb h1)
   | (go_at_call 131;with_reducible refine(M2 _).mono ?_;rintro e W⟨rfl,h1⟩;(try replace h1:=qb h1);replace hB:=Em hB h1;replace ra:=Ae ra h1;replace rb:=Ae rb h1)
   | (go_at_call 131;with_reducible refine(M3 _).mono ?_;rintro e W⟨rfl,h1⟩;(try replace h1:=qb h1);replace hB:=Em hB h1;replace ra:=Ae ra h1;replace rb:=Ae rb h1))
 have sa:=Av ra;have sb:=Av rb;go_wp2_with fail;refine(M4 _ (he.below hB)).mono ?_;rintro e W1⟨rfl,h1⟩;clear sa sb;replace hB:=Em hB h1;replace ra:=Ae ra h1;replace rb:=Ae rb h1;clear h1;have sa:=Av ra;have sb:=Av rb;go_wp2_with fail;refine(yw _).mono ?_;rintro e W2⟨rfl,h1⟩;clear sa sb;replace hB:=Em hB h1;replace ra:=Ae ra h1;replace rb:=Ae rb h1;clear h1;have sa:=Av ra;have sb:=Av rb;go_wp2_with fail;refine(M5 _ (he.below hB)).mono ?_;rintro e W3⟨rfl,h1⟩;clear sa sb;replace hB:=Em hB h1;replace ra:=Ae ra h1;replace rb:=Ae rb h1;clear h1;have sa:=Av ra;have sb:=Av rb;go_wp2_with fail;refine(M6 _).mono ?_;rintro e W4⟨rfl,h1⟩;clear sa sb;replace hB:=Em hB h1;replace ra:=Ae ra h1;replace rb:=Ae rb h1;clear h1;have sa:=Av ra;have sb:=Av rb;go_wp2_with fail;refine(M7 _ (he.below hB)).mono ?_;rintro e W5⟨rfl,h1⟩;clear sa sb;replace hB:=Em hB h1;replace ra:=Ae ra h1;replace rb:=Ae rb h1;clear h1;have sa:=Av ra;have sb:=Av rb;go_wp2_with fail;refine(M8 _).mono ?_;rintro e W6⟨rfl,h1⟩;clear sa sb;replace hB:=Em hB h1;replace ra:=Ae ra h1;replace rb:=Ae rb h1;clear h1;have sa:=Av ra;have sb:=Av rb;go_wp2;go_ret2;exact⟨true,⟨(fun _=>X.out),(fun _=>rfl)⟩,rfl,hB⟩
theorem jbB{j:Nat}(p:Nat)(r:Rat)(m:Int)(hr:QDig j r)(hp:p<=30)(hjp:j+p+p<=200)(hm:yz (jy r (TT p)) m)(hx:r.num*TT p*TT p%(r.den:Int)=0)(hs:¬ m*m=jy r (TT p))(w:World)(he:Env w) :
  Calls prog 130 #[.agg #[.int .i64 (p:Int),.string (S (TT p))],Q r] w (qaP r (TT p) m w):=by
 have hq:=hr.mono (show j<=200 by omega);have ia:=qq r.num;have id_:=qq (r.den:Int);have it:=qq (TT p);have fa:Fits r.num:=hq.1;have fd:Fits (r.den:Int):=hq.2;have ft:Fits (TT p):=(zae p).fits oo;obtain⟨n1,hn1⟩:∃ n,n=r.num*TT p:=⟨_,rfl⟩
 obtain⟨n,hn⟩:∃ n,n=n1*TT p:=⟨_,rfl⟩
 have dn1:Dig (j+p) n1:=by rw[hn1];exact vA hr.1
 have dn:Dig (j+p+p) n:=by rw[hn];exact vA dn1
 have fn1:=dn1.fits oo;have fn:=dn.fits oo;obtain⟨q,hqe⟩:∃ q,q=n/(r.den:Int):=⟨_,rfl⟩
 obtain⟨z,hz⟩:∃ z,z=n%(r.den:Int):=⟨_,rfl⟩
 have hQ:jy r (TT p)=q:=by unfold jy;rw[hqe,hn,hn1]
 have fq:Fits q:=by rw[hqe];exact(dn.ediv _).fits oo
 rw[hQ]at hm;have hroot:=hid (zas hm);have lm:=zV hm;have fm:Fits m:=(Fits.dig fq).of_le oo;have N1:=hid hn1.symm;have N2:=hid hn.symm;have N3:=hid hqe.symm;have N4:=hid hz.symm;have d0:=den_pos r;have D0:Hid ((r.den:Int)≠0):=hid oo;have in1:=qq n1;have in_:=qq n;have iq:=qq q;have im:=qq m;have hzr:z=r.num*TT p*TT p%(r.den:Int):=by rw[hz,hn,hn1]
 have zz:((S z).toList==[48])=true:=qa1 (by rw[hzr];exact hx);have X:Hid ¬ yW r (TT p) m:=hid (fun h=>hs h.2);rw[hQ]at hs;obtain⟨mm,hmm⟩:∃ x,x=m*m:=⟨_,rfl⟩
 have fmm:Fits mm:=by have:=hm.2.1;rw[hmm];exact(Fits.dig fq).of_le (by have:=CZ hm.1 hm.1;omega)
 have ne:((S mm).toList==(S q).toList)=false:=vcI (by rw[hmm];exact hs);have MM:=hid hmm.symm;clear hs hx hmm hn1 hn hqe hz hzr dn1 dn hQ hm lm d0;obtain⟨ra,rb,hB⟩:Row ((w.alloc (.cells #[.int .i64 (p:Int),.string (S (TT p))] 141)).alloc (.cells #[.string (S r.num),.string (S (r.den:Int))] 23)) w.heap.size (.cells #[.int .i64 (p:Int),.string (S (TT p))] 141)/\Row ((w.alloc (.cells #[.int .i64 (p:Int),.string (S (TT p))] 141)).alloc (.cells #[.string (S r.num),.string (S (r.den:Int))] 23)) (w.heap.size+1) (.cells #[.string (S r.num),.string (S (r.den:Int))] 23)/\Aa w ((w.alloc (.cells #[.int .i64 (p:Int),.string (S (TT p))] 141)).alloc (.cells #[.string (S r.num),.string (S (r.den:Int))] 23)):=by
  refine⟨C2,C2,?_⟩;have hB:=Au w.heap.size w;exact yJ
 have KK:∀ X,Row X w.heap.size (.cells #[.int .i64 (p:Int),.string (S (TT p))] 141)->Row X (w.heap.size+1) (.cells #[.string (S r.num),.string (S (r.den:Int))] 23)->(X.cell? ⟨w.heap.size,0,none⟩=some (.int .i64 (p:Int))/\X.cell? ⟨w.heap.size,1,none⟩=some (.string (S (TT p)))/\X.cell? ⟨w.heap.size+1,0,none⟩=some (.string (S r.num))/\X.cell? ⟨w.heap.size+1,1,none⟩=some (.string (S (r.den:Int)))):=fun X h1 h2=>⟨(Av h1).2.1,(Av h1).2.2.1,(Av h2).2.1,(Av h2).2.2.1⟩
 have M0:=fun W (h:Env W)=>qcu ia it N1 fa ft fn1 W h
 have M1:=fun W (h:Env W)=>qcu in1 it N2 fn1 ft fn W h
 have M2:=fun W=>zX (S n1) W
 have M3:=fun W=>zX (S n) W
 have M4:=fun W (h:Env W)=>ycJ in_ id_ N3 N4 fn fd D0 W h
 have M5:=fun W (h:Env W)=>jcG iq hroot fq W h
 have M6:=fun W=>zX (S m) W
 have M7:=fun W (h:Env W)=>qcu im im MM fm fm fmm W h
 have M8:=fun W=>zX (S mm) W
 unfold vX at *;unfold yaK at M4;clear ia id_ it fa fd ft fn1 fn fq fm N1 N2 N3 N4 in1 in_ iq im hroot D0 hq hr MM fmm;show Calls prog 130 #[.agg #[.int .i64 (p:Int),.string (S (TT p))],.agg #[.string (S r.num),.string (S (r.den:Int))]] w _;generalize S r.num=rn at *;generalize S (r.den:Int)=rd at *;generalize S (TT p)=st at *;generalize S n1=sn1 at *;generalize S n=sn at *;generalize S q=sq at *;generalize S z=sz at *;generalize S mm=smm at *;go_enter func130,ntmps130;go_wp2_with fail;generalize ((w.alloc (.cells #[.int .i64 (p:Int),.string st] 141)).alloc (.cells #[.string rn,.string rd] 23))=W0 at *;go_region_held3 (fun X=>X.cell? ⟨w.heap.size,0,none⟩=some (.int .i64 (p:Int))/\X.cell? ⟨w.heap.size,1,none⟩=some (.string st)/\X.cell? ⟨w.heap.size+1,0,none⟩=some (.string rn)/\X.cell? ⟨w.heap.size+1,1,none⟩=some (.string rd)) (first|exact KK _ kaK zcw) (first
   | (go_at_call 168;with_reducible refine(M0 _ (by first|exact he.below hB|exact he.below hB.drew|exact he.below (ze hB _))).mono ?_;rintro e W⟨rfl,h1⟩;(try replace h1:=qb h1);replace hB:=Em hB h1;replace ra:=Ae ra h1;replace rb:=Ae rb h1)
   | (go_at_call 168;with_reducible refine(M1 _ (by first|exact he.below hB|exact he.below hB.drew|exact he.below (ze hB _))).mono ?_;rintro e W⟨rfl,h1⟩;(try replace h1:=qb h1);replace hB:=Em hB h1;replace ra:=Ae ra h1;replace rb:=Ae rb h1)
   | (go_at_call 131;with_reducible refine(M2 _).mono ?_;rintro e W⟨rfl,h1⟩;(try replace h1:=qb h1);replace hB:=Em hB h1;replace ra:=Ae ra h1;replace rb:=Ae rb h1)
   | (go_at_call 131;with_reducible refine(M3 _).mono ?_;rintro e W⟨rfl,h1⟩;(try replace h1:=qb h1);replace hB:=Em hB h1;replace ra:=Ae ra h1;replace rb:=Ae rb h1))
 have sa:=Av ra;have sb:=Av rb;go_wp2_with fail;refine(M4 _ (he.below hB)).mono ?_;rintro e W1⟨rfl,h1⟩;clear sa sb;replace hB:=Em hB h1;replace ra:=Ae ra h1;replace rb:=Ae rb h1;clear h1;have sa:=Av ra;have sb:=Av rb;go_wp2_with fail;refine(yw _).mono ?_;rintro e W2⟨rfl,h1⟩;clear sa sb;replace hB:=Em hB h1;replace ra:=Ae ra h1;replace rb:=Ae rb h1;clear h1;have sa:=Av ra;have sb:=Av rb;go_wp2_with fail;refine(M5 _ (he.below hB)).mono ?_;rintro e W3⟨rfl,h1⟩;clear sa sb;replace hB:=Em hB h1;replace ra:=Ae ra h1;replace rb:=Ae rb h1;clear h1;have sa:=Av ra;have sb:=Av rb;go_wp2_with fail;refine(M6 _).mono ?_;rintro e W4⟨rfl,h1⟩;clear sa sb;replace hB:=Em hB h1;replace ra:=Ae ra h1;replace rb:=Ae rb h1;clear h1;have sa:=Av ra;have sb:=Av rb;go_wp2_with fail;refine(M7 _ (he.below hB)).mono ?_;rintro e W5⟨rfl,h1⟩;clear sa sb;replace hB:=Em hB h1;replace ra:=Ae ra h1;replace rb:=Ae rb h1;clear h1;have sa:=Av ra;have sb:=Av rb;go_wp2_with fail;refine(M8 _).mono ?_;rintro e W6⟨rfl,h1⟩;clear sa sb;replace hB:=Em hB h1;replace ra:=Ae ra h1;replace rb:=Ae rb h1;clear h1;have sa:=Av ra;have sb:=Av rb;go_wp2;go_ret2;exact⟨false,⟨fun h=>(by cases h),fun h=>absurd h X.out⟩,rfl,hB⟩
theorem ych{j:Nat}(p:Nat)(r:Rat)(m:Int)(hr:QDig j r)(hp:p<=30)(hjp:j+p+p<=200)(hm:yz (jy r (TT p)) m)(w:World)(he:Env w) :
  Calls prog 130 #[.agg #[.int .i64 (p:Int),.string (S (TT p))],Q r] w (qaP r (TT p) m w):=by
 by_cases hx:r.num*TT p*TT p%(r.den:Int)=0
 ·by_cases hs:m*m=jy r (TT p)
  ·exact zbg p r m hr hp hjp hm hx hs w he
  ·exact jbB p r m hr hp hjp hm hx hs w he
 ·exact kbB p r m hr hp hjp hm hx w he
theorem qa5(ba bp j p:Nat)(a:Iv)(ml mh:Int)(da:IDig j a)(hp:p<=30)(hjp:j+p+p+1<=200)(h0:0<=a.lo)(hml:yz (jy a.lo (TT p)) ml)(hmh:yz (jy a.hi (TT p)) mh)(hx:yW a.hi (TT p) mh)(w:World)(he:Env w)(ra:IvRow w ba a)(rp:Row w bp (.cells #[.int .i64 (p:Int)] 3)) :
  Calls prog 126 #[.pointer (some ⟨bp,0,none⟩),.pointer (some ⟨ba,0,none⟩)] w (jcZ (SqrtI a (TT p)) w):=by
 have hq1:=da.1.mono (show j<=200 by omega);have g1:0<=zE a.lo 0:=qE.2 h0;have MZ:=fun W=>qcR W
 have MC:=fun W (h:Env W)=>kP a.lo 0 hq1 ⟨kR dd dd,kR dd dd⟩ W h
 have MT:=fun W=>yw W
 have MG:=fun W=>ycQ p hp W
 have RL:=fun W (h:Env W)=>ych p a.lo ml da.1 hp oo hml W h
 have RH:=fun W (h:Env W)=>ych p a.hi mh da.2 hp oo hmh W h
 have ft:Fits (TT p):=(zae p).fits oo;have hT:=qae p;have it:=qq (TT p);have dl:Dig (j+p+p) (jy a.lo (TT p)):=kS da.1;have dh:Dig (j+p+p) (jy a.hi (TT p)):=kS da.2;have ll:=zV hml;have lh:=zV hmh;have dml:Dig (j+p+p) ml:=dl.of_le oo;have dmh:Dig (j+p+p) mh:=dh.of_le oo;have fml:=dml.fits oo;have fmh:=dmh.fits oo;have il:=qq ml;have ih:=qq mh;have K0:=fun W (h:Env W)=>kb2 il it fml ft oo W h
 have K1:=fun W (h:Env W)=>kb2 ih it fmh ft oo W h
 have SQ:Hid (SqrtI a (TT p) ⟨Rat.divInt ml (TT p),Rat.divInt mh (TT p)⟩):=hid ⟨⟨ml,hml,rfl⟩,⟨mh,hmh,.inl ⟨hx,rfl⟩⟩⟩;obtain⟨x,hxe⟩:∃ x,x=Rat.divInt ml (TT p):=⟨_,rfl⟩
 obtain⟨y,hye⟩:∃ y,y=Rat.divInt mh (TT p):=⟨_,rfl⟩
 rw[<- hxe]at K0;rw[<- hye]at K1;have SQ2:Hid (SqrtI a (TT p) ⟨x,y⟩):=by rw[hxe,hye];exact SQ
 have MX:=fun W=>kch x W
 have MY:=fun W=>kch y W
 unfold QOk Q at K0 K1;unfold QIs Q at MX MY;unfold Q at RL RH MZ MC;unfold jB at MC;unfold ja1 at MT;have XH:=hid hx;clear SQ hxe hye hq1 h0 hml hmh da ft hT it dl dh ll lh dml dmh fml fmh il ih hx hjp;generalize zE a.lo 0=g at *;have g2:decide (0<=g)=true:=decide_eq_true g1;have sa:=ra.1;have sp:=rp.1;unfold IvRow at *;have KA:∀ X,Row X ba (.cells #[.string (S a.lo.num),.string (S (a.lo.den:Int)),.string (S a.hi.num),.string (S (a.hi.den:Int))] 44)->(X.cell? ⟨ba,0,none⟩=some (.string (S a.lo.num))/\X.cell? ⟨ba,1,none⟩=some (.string (S (a.lo.den:Int)))/\X.cell? ⟨ba,2,none⟩=some (.string (S a.hi.num))/\X.cell? ⟨ba,3,none⟩=some (.string (S (a.hi.den:Int)))):=fun X h=>IvRow.facts h
 have hB:=Ab w;clear sa sp;have sa:=AM ra;have sp:=Bi rp;generalize S (0:Rat).num=zn at *;generalize S ((0:Rat).den:Int)=zd at *;go_enter func126,ntmps126;go_wp2_with fail;have sB:=hB.size;refine za (kp1 hB rp fun X=>Row X ba (.cells #[.string (S a.lo.num),.string (S (a.lo.den:Int)),.string (S a.hi.num),.string (S (a.hi.den:Int))] 44)/\Row X w.heap.size (.cells #[.string ⟨#[]⟩,.string ⟨#[]⟩,.string ⟨#[]⟩,.string ⟨#[]⟩] 44)) ⟨yJ,ybL,kaK,C2⟩ ?_;unfold kp1;clear ra sa rp sp hB sB;rintro V1⟨hB,rp,ra,ro⟩;have sa:=AM ra;have sp:=Bi rp;have so:=AM ro;refine(MG _).mono ?_;rintro e W2⟨rfl,h1⟩;clear sa sp so;replace hB:=Em hB h1;replace ra:=Ae ra h1;replace rp:=Ae rp h1;replace ro:=Ae ro h1;clear h1;have sa:=AM ra;have sp:=Bi rp;have so:=AM ro;have wlt:=ro.1;go_wp2_with fail;have sB:=hB.size;refine zi (kp3 hB ra rp ro fun X=>Row X W2.heap.size (.cells #[.int .i64 (p:Int),.string (S (TT p))] 141)) ⟨yJ,kaK,ybL,zaP,C2⟩ ?_;unfold kp3;clear ra sa rp sp ro so hB sB;rintro V3⟨hB,ra,rp,ro,rg⟩;have sa:=AM ra;have sp:=Bi rp;have so:=AM ro;have sg:=Av rg;go_region_held3 (fun X=>X.cell? ⟨ba,0,none⟩=some (.string (S a.lo.num))/\X.cell? ⟨ba,1,none⟩=some (.string (S (a.lo.den:Int)))/\X.cell? ⟨ba,2,none⟩=some (.string (S a.hi.num))/\X.cell? ⟨ba,3,none⟩=some (.string (S (a.hi.den:Int)))) (first|exact KA _ kaK) (first
   | (go_at_call 129;with_reducible refine(MZ _).mono ?_;rintro e W⟨rfl,h1⟩;(try replace h1:=qb h1);replace hB:=Em hB h1;replace ra:=Ae ra h1;replace rp:=Ae rp h1;replace ro:=Ae ro h1;replace rg:=Ae rg h1)
   | (go_at_call 101;with_reducible refine(MC _ (by first|exact he.below hB|exact he.below hB.drew|exact he.below (ze hB _))).mono ?_;rintro e W⟨rfl,h1⟩;(try replace h1:=qb h1);replace hB:=Em hB h1;replace ra:=Ae ra h1;replace rp:=Ae rp h1;replace ro:=Ae ro h1;replace rg:=Ae rg h1)
   | (go_at_call 128;with_reducible refine(MT _).mono ?_;rintro e W⟨rfl,h1⟩;(try replace h1:=qb h1);replace hB:=Em hB h1;replace ra:=Ae ra h1;replace rp:=Ae rp h1;replace ro:=Ae ro h1;replace rg:=Ae rg h1))
 have sa:=AM ra;have sp:=Bi rp;have so:=AM ro;have sg:=Av rg;go_wp2_with fail;refine(RL _ (he.below hB)).mono ?_;rintro e W4⟨b1,_,rfl,h1⟩;clear sa sp so sg;replace hB:=Em hB h1;replace ra:=Ae ra h1;replace rp:=Ae rp h1;replace ro:=Ae ro h1;replace rg:=Ae rg h1;clear h1;have sa:=AM ra;have sp:=Bi rp;have so:=AM ro;have sg:=Av rg;go_wp2_with fail;refine(RH _ (he.below hB)).mono ?_;rintro e W5⟨b2,hb2,rfl,h1⟩;clear sa sp so sg;replace hB:=Em hB h1;replace ra:=Ae ra h1;replace rp:=Ae rp h1;replace ro:=Ae ro h1;replace rg:=Ae rg h1;clear h1;have sa:=AM ra;have sp:=Bi rp;have so:=AM ro;have sg:=Av rg;obtain rfl:b2=true:=hb2.2 XH.out;clear hb2;have KG:∀ X,Row X W2.heap.size (.cells #[.int .i64 (p:Int),.string (S (TT p))] 141)->(X.cell? ⟨W2.heap.size,0,none⟩=some (.int .i64 (p:Int))/\X.cell? ⟨W2.heap.size,1,none⟩=some (.string (S (TT p)))):=fun X h=>⟨(Av h).2.1,(Av h).2.2.1⟩
 clear RL RH MZ MC MT MG KA;go_wp2_with fail;generalize hgtl:S ml=tl at *;generalize hgtt:S (TT p)=tt at *;generalize hgth:S mh=th at *;generalize hgxn:S x.num=xn at *;generalize hgxd:S (x.den:Int)=xd at *;generalize hgyn:S y.num=yn at *;generalize hgyd:S (y.den:Int)=yd at *;have HG:=hid (AD hgxn (AD hgxd (AD hgyn hgyd)));clear hgtl hgtt hgth hgxn hgxd hgyn hgyd;go_region_held3 (fun X=>X.cell? ⟨W2.heap.size,0,none⟩=some (.int .i64 (p:Int))/\X.cell? ⟨W2.heap.size,1,none⟩=some (.string tt)) (first|exact KG _ kcK) (first
   | (go_at_call 134;with_reducible refine(K0 _ (by first|exact he.below hB|exact he.below hB.drew|exact he.below (ze hB _))).mono ?_;rintro e W⟨rfl,h1⟩;(try replace h1:=qb h1);replace hB:=Em hB h1;replace ra:=Ae ra h1;replace rp:=Ae rp h1;replace ro:=Ae ro h1;replace rg:=Ae rg h1;have so:=AM ro)
   | (go_at_call 134;with_reducible refine(K1 _ (by first|exact he.below hB|exact he.below hB.drew|exact he.below (ze hB _))).mono ?_;rintro e W⟨rfl,h1⟩;(try replace h1:=qb h1);replace hB:=Em hB h1;replace ra:=Ae ra h1;replace rp:=Ae rp h1;replace ro:=Ae ro h1;replace rg:=Ae rg h1;have so:=AM ro)
   | (go_at_call 133;with_reducible refine(MX _).mono ?_;rintro e W⟨rfl,h1⟩;(try replace h1:=qb h1);replace hB:=Em hB h1;replace ra:=Ae ra h1;replace rp:=Ae rp h1;replace ro:=Ae ro h1;replace rg:=Ae rg h1;have so:=AM ro)
   | (go_at_call 133;with_reducible refine(MY _).mono ?_;rintro e W⟨rfl,h1⟩;(try replace h1:=qb h1);replace hB:=Em hB h1;replace ra:=Ae ra h1;replace rp:=Ae rp h1;replace ro:=Ae ro h1;replace rg:=Ae rg h1;have so:=AM ro))
 go_wp2;have sB:=hB.size;refine vc (fun X=>Aa w X/\Row X w.heap.size (.cells #[.string xn,.string xd,.string yn,.string yd] 44)) ⟨yJ,zaP⟩ ?_;clear ro so hB sB;rintro V6⟨hB,ro⟩;have so:=AM ro;refine bodyPost_ret (v:=.agg #[.string xn,.string xd,.string yn,.string yd]) ?res rfl ⟨⟨x,y⟩,SQ2.out,by rw[<- HG.out.1,<- HG.out.2.1,<- HG.out.2.2.1,<- HG.out.2.2.2];rfl,hB⟩
 case res=>simp[results,results126,go_sem,so]
theorem za5(ba bp j p:Nat)(a:Iv)(ml mh:Int)(da:IDig j a)(hj0:0<j+p+p)(hp:p<=30)(hjp:j+p+p+1<=200)(h0:0<=a.lo)(hml:yz (jy a.lo (TT p)) ml)(hmh:yz (jy a.hi (TT p)) mh)(hx:¬ yW a.hi (TT p) mh)(w:World)(he:Env w)(ra:IvRow w ba a)(rp:Row w bp (.cells #[.int .i64 (p:Int)] 3)) :
  Calls prog 126 #[.pointer (some ⟨bp,0,none⟩),.pointer (some ⟨ba,0,none⟩)] w (jcZ (SqrtI a (TT p)) w):=by
 have hq1:=da.1.mono (show j<=200 by omega);have g1:0<=zE a.lo 0:=qE.2 h0;have MZ:=fun W=>qcR W
 have MC:=fun W (h:Env W)=>kP a.lo 0 hq1 ⟨kR dd dd,kR dd dd⟩ W h
 have MT:=fun W=>yw W
 have MG:=fun W=>ycQ p hp W
 have RL:=fun W (h:Env W)=>ych p a.lo ml da.1 hp oo hml W h
 have RH:=fun W (h:Env W)=>ych p a.hi mh da.2 hp oo hmh W h
 have ft:Fits (TT p):=(zae p).fits oo;have hT:=qae p;have it:=qq (TT p);have dl:Dig (j+p+p) (jy a.lo (TT p)):=kS da.1;have dh:Dig (j+p+p) (jy a.hi (TT p)):=kS da.2;have ll:=zV hml;have lh:=zV hmh;have dml:Dig (j+p+p) ml:=dl.of_le oo;have dmh:Dig (j+p+p) mh:=dh.of_le oo;have fml:=dml.fits oo;have fmh:=dmh.fits oo;have il:=qq ml;have ih:=qq mh;have f1:Fits 1:=yT dd;have i1:Is ⟨#[49]⟩ 1:=jbt dd dd;obtain⟨mk,hk⟩:∃ x,x=mh+1:=⟨_,rfl⟩
 have fmk:Fits mk:=by rw[hk];exact(dmh.add (kR dd hj0)).fits oo
 have ik:=qq mk;have KH:=hid hk.symm;have MA:=fun W (h:Env W)=>jdb ih i1 KH fmh f1 fmk W h
 have MS:=fun W=>zX (S mk) W
 unfold vX at MA;have K0:=fun W (h:Env W)=>kb2 il it fml ft oo W h
 have K1:=fun W (h:Env W)=>kb2 ik it fmk ft oo W h
 have SQ:Hid (SqrtI a (TT p) ⟨Rat.divInt ml (TT p),Rat.divInt mk (TT p)⟩):=hid ⟨⟨ml,hml,rfl⟩,⟨mh,hmh,.inr ⟨hx,by rw[hk]⟩⟩⟩;obtain⟨x,hxe⟩:∃ x,x=Rat.divInt ml (TT p):=⟨_,rfl⟩
 obtain⟨y,hye⟩:∃ y,y=Rat.divInt mk (TT p):=⟨_,rfl⟩
 rw[<- hxe]at K0;rw[<- hye]at K1;have SQ2:Hid (SqrtI a (TT p) ⟨x,y⟩):=by rw[hxe,hye];exact SQ
 have MX:=fun W=>kch x W
 have MY:=fun W=>kch y W
 unfold QOk Q at K0 K1;unfold QIs Q at MX MY;unfold Q at RL RH MZ MC;unfold jB at MC;unfold ja1 at MT;have XH:=hid hx;clear SQ hxe hye hq1 h0 hml hmh da ft hT it dl dh ll lh dml dmh fml fmh il ih hx hjp f1 i1 hk fmk ik KH hj0;generalize zE a.lo 0=g at *;have g2:decide (0<=g)=true:=decide_eq_true g1;have sa:=ra.1;have sp:=rp.1;unfold IvRow at *;have KA:∀ X,Row X ba (.cells #[.string (S a.lo.num),.string (S (a.lo.den:Int)),.string (S a.hi.num),.string (S (a.hi.den:Int))] 44)->(X.cell? ⟨ba,0,none⟩=some (.string (S a.lo.num))/\X.cell? ⟨ba,1,none⟩=some (.string (S (a.lo.den:Int)))/\X.cell? ⟨ba,2,none⟩=some (.string (S a.hi.num))/\X.cell? ⟨ba,3,none⟩=some (.string (S (a.hi.den:Int)))):=fun X h=>IvRow.facts h
 have hB:=Ab w;clear sa sp;have sa:=AM ra;have sp:=Bi rp;generalize S (0:Rat).num=zn at *;generalize S ((0:Rat).den:Int)=zd at *;go_enter func126,ntmps126;go_wp2_with fail;have sB:=hB.size;refine za (kp1 hB rp fun X=>Row X ba (.cells #[.string (S a.lo.num),.string (S (a.lo.den:Int)),.string (S a.hi.num),.string (S (a.hi.den:Int))] 44)/\Row X w.heap.size (.cells #[.string ⟨#[]⟩,.string ⟨#[]⟩,.string ⟨#[]⟩,.string ⟨#[]⟩] 44)) ⟨yJ,ybL,kaK,C2⟩ ?_;unfold kp1;clear ra sa rp sp hB sB;rintro V1⟨hB,rp,ra,ro⟩;have sa:=AM ra;have sp:=Bi rp;have so:=AM ro;refine(MG _).mono ?_;rintro e W2⟨rfl,h1⟩;clear sa sp so;replace hB:=Em hB h1;replace ra:=Ae ra h1;replace rp:=Ae rp h1;replace ro:=Ae ro h1;clear h1;have sa:=AM ra;have sp:=Bi rp;have so:=AM ro;have wlt:=ro.1;go_wp2_with fail;have sB:=hB.size;refine zi (kp3 hB ra rp ro fun X=>Row X W2.heap.size (.cells #[.int .i64 (p:Int),.string (S (TT p))] 141)) ⟨yJ,kaK,ybL,zaP,C2⟩ ?_;unfold kp3;clear ra sa rp sp ro so hB sB;rintro V3⟨hB,ra,rp,ro,rg⟩;have sa:=AM ra;have sp:=Bi rp;have so:=AM ro;have sg:=Av rg;go_region_held3 (fun X=>X.cell? ⟨ba,0,none⟩=some (.string (S a.lo.num))/\X.cell? ⟨ba,1,none⟩=some (.string (S (a.lo.den:Int)))/\X.cell? ⟨ba,2,none⟩=some (.string (S a.hi.num))/\X.cell? ⟨ba,3,none⟩=some (.string (S (a.hi.den:Int)))) (first|exact KA _ kaK) (first
   | (go_at_call 129;with_reducible refine(MZ _).mono ?_;rintro e W⟨rfl,h1⟩;(try replace h1:=qb h1);replace hB:=Em hB h1;replace ra:=Ae ra h1;replace rp:=Ae rp h1;replace ro:=Ae ro h1;replace rg:=Ae rg h1)
   | (go_at_call 101;with_reducible refine(MC _ (by first|exact he.below hB|exact he.below hB.drew|exact he.below (ze hB _))).mono ?_;rintro e W⟨rfl,h1⟩;(try replace h1:=qb h1);replace hB:=Em hB h1;replace ra:=Ae ra h1;replace rp:=Ae rp h1;replace ro:=Ae ro h1;replace rg:=Ae rg h1)
   | (go_at_call 128;with_reducible refine(MT _).mono ?_;rintro e W⟨rfl,h1⟩;(try replace h1:=qb h1);replace hB:=Em hB h1;replace ra:=Ae ra h1;replace rp:=Ae rp h1;replace ro:=Ae ro h1;replace rg:=Ae rg h1))
 have sa:=AM ra;have sp:=Bi rp;have so:=AM ro;have sg:=Av rg;go_wp2_with fail;refine(RL _ (he.below hB)).mono ?_;rintro e W4⟨b1,_,rfl,h1⟩;clear sa sp so sg;replace hB:=Em hB h1;replace ra:=Ae ra h1;replace rp:=Ae rp h1;replace ro:=Ae ro h1;replace rg:=Ae rg h1;clear h1;have sa:=AM ra;have sp:=Bi rp;have so:=AM ro;have sg:=Av rg;go_wp2_with fail;refine(RH _ (he.below hB)).mono ?_;rintro e W5⟨b2,hb2,rfl,h1⟩;clear sa sp so sg;replace hB:=Em hB h1;replace ra:=Ae ra h1;replace rp:=Ae rp h1;replace ro:=Ae ro h1;replace rg:=Ae rg h1;clear h1;have sa:=AM ra;have sp:=Bi rp;have so:=AM ro;have sg:=Av rg;obtain rfl:b2=false:=by cases b2<;>first|rfl|exact absurd (hb2.1 rfl) XH.out
 clear hb2;go_wp2_with fail;refine(MA _ (he.below hB)).mono ?_;rintro e W6⟨rfl,h1⟩;clear sa sp so sg;replace hB:=Em hB h1;replace ra:=Ae ra h1;replace rp:=Ae rp h1;replace ro:=Ae ro h1;replace rg:=Ae rg h1;clear h1;have sa:=AM ra;have sp:=Bi rp;have so:=AM ro;have sg:=Av rg;go_wp2_with fail;refine(MS _).mono ?_;rintro e W7⟨rfl,h1⟩;clear sa sp so sg;replace hB:=Em hB h1;replace ra:=Ae ra h1;replace rp:=Ae rp h1;replace ro:=Ae ro h1;replace rg:=Ae rg h1;clear h1;have sa:=AM ra;have sp:=Bi rp;have so:=AM ro;have sg:=Av rg;have KG:∀ X,Row X W2.heap.size (.cells #[.int .i64 (p:Int),.string (S (TT p))] 141)->(X.cell? ⟨W2.heap.size,0,none⟩=some (.int .i64 (p:Int))/\X.cell? ⟨W2.heap.size,1,none⟩=some (.string (S (TT p)))):=fun X h=>⟨(Av h).2.1,(Av h).2.2.1⟩
 clear RL RH MZ MC MT MG KA MA MS;go_wp2_with fail;generalize hgtl:S ml=tl at *;generalize hgtt:S (TT p)=tt at *;generalize hgth:S mk=th at *;generalize hgxn:S x.num=xn at *;generalize hgxd:S (x.den:Int)=xd at *;generalize hgyn:S y.num=yn at *;generalize hgyd:S (y.den:Int)=yd at *;have HG:=hid (AD hgxn (AD hgxd (AD hgyn hgyd)));clear hgtl hgtt hgth hgxn hgxd hgyn hgyd;go_region_held3 (fun X=>X.cell? ⟨W2.heap.size,0,none⟩=some (.int .i64 (p:Int))/\X.cell? ⟨W2.heap.size,1,none⟩=some (.string tt)) (first|exact KG _ kcK) (first
   | (go_at_call 134;with_reducible refine(K0 _ (by first|exact he.below hB|exact he.below hB.drew|exact he.below (ze hB _))).mono ?_;rintro e W⟨rfl,h1⟩;(try replace h1:=qb h1);replace hB:=Em hB h1;replace ra:=Ae ra h1;replace rp:=Ae rp h1;replace ro:=Ae ro h1;replace rg:=Ae rg h1;have so:=AM ro)
   | (go_at_call 134;with_reducible refine(K1 _ (by first|exact he.below hB|exact he.below hB.drew|exact he.below (ze hB _))).mono ?_;rintro e W⟨rfl,h1⟩;(try replace h1:=qb h1);replace hB:=Em hB h1;replace ra:=Ae ra h1;replace rp:=Ae rp h1;replace ro:=Ae ro h1;replace rg:=Ae rg h1;have so:=AM ro)
   | (go_at_call 133;with_reducible refine(MX _).mono ?_;rintro e W⟨rfl,h1⟩;(try replace h1:=qb h1);replace hB:=Em hB h1;replace ra:=Ae ra h1;replace rp:=Ae rp h1;replace ro:=Ae ro h1;replace rg:=Ae rg h1;have so:=AM ro)
   | (go_at_call 133;with_reducible refine(MY _).mono ?_;rintro e W⟨rfl,h1⟩;(try replace h1:=qb h1);replace hB:=Em hB h1;replace ra:=Ae ra h1;replace rp:=Ae rp h1;replace ro:=Ae ro h1;replace rg:=Ae rg h1;have so:=AM ro))
 go_wp2;have sB:=hB.size;refine vc (fun X=>Aa w X/\Row X w.heap.size (.cells #[.string xn,.string xd,.string yn,.string yd] 44)) ⟨yJ,zaP⟩ ?_;clear ro so hB sB;rintro V8⟨hB,ro⟩;have so:=AM ro;refine bodyPost_ret (v:=.agg #[.string xn,.string xd,.string yn,.string yd]) ?res rfl ⟨⟨x,y⟩,SQ2.out,by rw[<- HG.out.1,<- HG.out.2.1,<- HG.out.2.2.1,<- HG.out.2.2.2];rfl,hB⟩
 case res=>simp[results,results126,go_sem,so]
theorem vcQ(ba bp j p:Nat)(a:Iv)(da:IDig j a)(hj:0<j)(oa:a.Ok)(hp:p<=30)(hjp:j+p+p+1<=200)(h0:0<=a.lo)(w:World)(he:Env w)(ra:IvRow w ba a)(rp:Row w bp (.cells #[.int .i64 (p:Int)] 3)) :
  Calls prog 126 #[.pointer (some ⟨bp,0,none⟩),.pointer (some ⟨ba,0,none⟩)] w (jcZ (SqrtI a (TT p)) w):=by
 have hh:0<=a.hi:=Cu h0 oa;obtain⟨ml,hml⟩:=zav (qaw h0 (qae p));obtain⟨mh,hmh⟩:=zav (qaw hh (qae p));by_cases hx:yW a.hi (TT p) mh
 ·exact qa5 ba bp j p a ml mh da hp hjp h0 hml hmh hx w he ra rp
 ·exact za5 ba bp j p a ml mh da oo hp hjp h0 hml hmh hx w he ra rp
theorem yc4{j:Nat}{a:Iv}{p:Nat}(da:IDig j a)(hj:0<j)(oa:a.Ok)(hp:p<=30)(hjp:j+p+p+1<=200)(h0:0<=a.lo)(w:World)(he:Env w) :
  Calls prog 83 #[I a,.int .i64 (p:Int)] w (zda (SqrtI a (TT p)) w):=by
 have egG:∀ args w,(callFunc 126 args).run prog w=.ok (.enter 126 args) w:=enters_of func126 kr9 rfl;have egC:∀ args w,(callFunc 165 args).run prog w=.ok (.enter 165 args) w:=enters_of func165 kr9 rfl;have hB:=Ab w;show Calls prog 83 #[.agg #[.string (S a.lo.num),.string (S (a.lo.den:Int)),.string (S a.hi.num),.string (S (a.hi.den:Int))],.int .i64 (p:Int)] w _;go_enter func83,ntmps83;have hmf:∀(fn:Fn) (first cap:Array Value) (w:World),(Instr.makeFunc fn first cap).run prog w=.ok (.func fn first cap) w:=fun _ _ _ _=>rfl
 go_wp2_with fail;have sB:=hB.size;refine za (fun X=>Aa w X/\Row X w.heap.size (oI a.lo a.hi)/\Row X (w.heap.size+1) (.cells #[.int .i64 (p:Int)] 3)/\Row X (w.heap.size+1+1) oI0/\Row X (w.heap.size+1+1+1) (oI a.lo a.hi)) ⟨yJ,C2,C2,C2,C2⟩ ?_;clear hB sB;rintro V1⟨hB,ra,rp,ro,rs⟩;have sa:=AM ra;have sp:=Bi rp;have so:=AM ro;have ss:=AM rs;refine(ya5 126 _ _ 1 (SqrtI a (TT p)) _ egG (fun W h=>vbR 165 egC _ a W (Ae rs h) (fun W2 h2=>qc5 a (da.mono oo) oa W2 ((he.below (Em hB h)).below h2))) (fun W h=>vcQ _ _ j p a da hj oa hp hjp h0 W (he.below (Em hB h)) (Ae ra h) (Ae rp h))).mono ?_;rintro e W1⟨v,pv,rfl,h1⟩;have PV:=hid pv;clear pv sa sp so ss;replace hB:=Em hB h1;replace ra:=Ae ra h1;replace rp:=Ae rp h1;replace ro:=Ae ro h1;replace rs:=Ae rs h1;clear h1;have sa:=AM ra;have sp:=Bi rp;have so:=AM ro;have ss:=AM rs;clear hmf egG egC;unfold I;go_wp2;have sB:=hB.size;refine vc (kp3 hB ra rp rs fun X=>Row X (w.heap.size+1+1) (oI v.lo v.hi)) ⟨yJ,kaK,ybL,kcZ,zaP⟩ ?_;unfold kp3;clear ra sa rp sp ro so rs ss hB sB;rintro V2⟨hB,ra,rp,rs,ro⟩;have sa:=AM ra;have sp:=Bi rp;have so:=AM ro;have ss:=AM rs;refine bodyPost_ret (v:=.tuple #[.agg #[.string (S v.lo.num),.string (S (v.lo.den:Int)),.string (S v.hi.num),.string (S (v.hi.den:Int))],.int .i64 0]) ?res rfl ⟨_,PV.out,rfl,hB⟩
 case res=>simp[results,results83,go_sem,so]
end Go.Proofs.YtdiecekagiledaaGreatDoor
