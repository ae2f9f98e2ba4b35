/- The reference implementation: its exported functions on sums, products and. -/
import Derived.Test.YtdiecekagiledaaGreatDoorVEValid
import Derived.Test.YtdiecekagiledaaGreatDoorVRefQ
set_option maxRecDepth 100000
set_option maxHeartbeats 8000000
namespace Go.Proofs.YtdiecekagiledaaGreatDoor
open Go Go.RowKit Go.Lib Go.Shelf Go.Proofs.Tryz
theorem IsD.bound{w:World}{A:En}{n c x:Nat}(h:IsD w A n c x):x<10^n:=by
 obtain⟨l,h1,h2,rfl,_⟩:=h;rw[h1.len];exact jW h2.1
theorem IsD.len400{w W:World}{A B C:En}{n c m d k e x y:Nat}(h:IsD W C k e (x*y))(hn:n<=200)(hm:m<=200)(hx:IsD w A n c x)(hy:IsD w B m d y)(_hb:Aa w W):k<=400:=by
 have h1:=hx.bound;have h2:=hy.bound;have h3:x*y<10^(n+m):=by rw[Ef];exact Ec h1 h2
 have:=h.le h3;omega
theorem kh{a:ByteArray}{z:Int}(h:Is a z)(hf:Fits z)(w:World):Calls prog 91 #[.string a] w (qbM true w):=by
 have:=kat a w (h.str hf)
 rwa[h.valid hf]at this
theorem yL{a:ByteArray}(h:ks a.data.toList=false)(hs:Str a)(w:World):Calls prog 91 #[.string a] w (qbM false w):=by
 have:=kat a w hs
 rwa[h]at this
def yc0(z:Int)(w:World)(e:Ending)(w':World):Prop:=e=.returned (.tuple #[.string (S z),.bool (decide (Fits z))])/\Aa w w'
theorem jaf(neg:Bool){A:En}{n c U:Nat}{z:Int}(hz:Hid (sv neg U=z))(w:World)(h:IsD w A n c U)(hn:n<=1000):Calls prog 153 #[.bool neg,.slice A n c] w (yc0 z w):=by
 obtain⟨l,h1,h2,h3,h4⟩:=h;refine(vb5 neg A n c l w h1 oo h2.1).mono ?_;rintro e w'⟨rfl,hb⟩;refine⟨?_,hb⟩;have e1:(⟨(tx neg l).toArray⟩:ByteArray)=S z:=by
  rw[zb8 neg h2,h3,<- hz.out];unfold S sv
  cases neg<;>rfl
 have e2:decide ((n:Int)<=200)=decide (Fits z):=by
  have hza:z.natAbs=U:=by rw[<- hz.out];unfold sv;cases neg<;>simp
  have h5:(decDigits U).length<=200↔Fits z:=by rw[<- vO,hza]
  have h6:n=l.length:=h1.len;by_cases hl:l=[]
  ·subst hl;have h7:U=0:=by rw[<- h3];rfl
   have h8:n=0:=h6;have h9:Fits z:=h5.1 (by rw[h7,jm];decide);rw[h8];simp[h9]
  ·have h7:l.length=(decDigits U).length:=by rw[<- h3,<- vS h2 hl];simp[yu]
   have h8:(n:Int)<=200↔Fits z:=by rw[<- h5,<- h7,<- h6];omega
   simp[h8]
 rw[e1,e2]
def zaA(z:Int)(w:World)(e:Ending)(w':World):Prop:=e=.returned (.tuple #[.string ⟨(jn z).toArray⟩,.int .i64 (qH z)])/\Aa w w'
theorem vi(neg:Bool){A:En}{n c U:Nat}{z:Int}(hz:Hid (sv neg U=z))(w:World)(h:IsD w A n c U)(hn:n<=1000):Calls prog 144 #[.bool neg,.slice A n c] w (zaA z w):=by
 by_cases hf:Fits z
 ·have ht:(⟨(jn z).toArray⟩:ByteArray)=S z:=jJ hf;have he:=qQ hf;have hd:decide (Fits z)=true:=by simpa using hf
  unfold zaA;rw[ht,he];clear ht he;go_enter func144,ntmps144;go_wp2_with fail;refine(jaf neg hz _ h hn).mono ?_;rintro e W⟨rfl,hb⟩;rw[hd];clear hd;go_wp2;go_ret2;exact⟨rfl,hb⟩
 ·have ht:(⟨(jn z).toArray⟩:ByteArray)=⟨#[]⟩:=by rw[vba hf]
  have he:=yaY hf;have hd:decide (Fits z)=false:=by simpa using hf
  unfold zaA;rw[ht,he];clear ht he;go_enter func144,ntmps144;go_wp2_with fail;refine(jaf neg hz _ h hn).mono ?_;rintro e W⟨rfl,hb⟩;rw[hd];clear hd;go_wp2;go_ret2;exact⟨rfl,hb⟩
theorem pow401:Hid (∀ X Y:Nat,X<10^200->Y<10^200->X+Y<10^201):=hid (fun X Y h1 h2=>by
 rw[show(201:Nat)=200+1 from rfl,Bn];generalize (10:Nat)^200=T at *;omega)
theorem zbx(nx ny:Bool)(A B:En)(n c m d X Y:Nat)(z:Int)(w:World)(hs:Hid (sv nx X+sv ny Y=z))(hx:IsD w A n c X)(hy:IsD w B m d Y)(hX:Hid (X<10^200))(hY:Hid (Y<10^200)) :
  Calls prog 187 #[.bool nx,.slice A n c,.bool ny,.slice B m d] w (zaA z w):=by
 have hn:=hx.le hX.out;have hm:=hy.le hY.out
 cases nx<;>cases ny
 ·have hz:Hid (sv false (X+Y)=z):=hid (by rw[<- hs.out];simp[sv];try omega);clear hs;go_enter func187,ntmps187;go_wp2_with fail;refine(qan A B n c m d X Y _ hx hy oo oo).mono ?_;rintro e W⟨A1,n1,c1,rfl,h1,hb,_⟩;have hn1:=h1.le (K:=201) (AS oo (pow401.out X Y hX.out hY.out));go_wp2_with fail;refine(vi false hz _ h1 oo).mono ?_;rintro e W2⟨rfl,hb2⟩;go_wp2;refine bodyPost_ret (v:=.tuple #[.string ⟨(jn z).toArray⟩,.int .i64 (qH z)]) ?res rfl ⟨rfl,hb.trans (hb2.mono hb.size)⟩
  case res=>simp[results,f187,go_sem]
 ·by_cases hxy:Y<=X
  ·have hz:Hid (sv false (X-Y)=z):=hid (by rw[<- hs.out];simp[sv];try omega);have hcz:0<=kp (X:Int) (Y:Int):=by unfold kp;split<;>(try split)<;>omega
   have HXY:=hid hxy;clear hs hxy;go_enter func187,ntmps187;go_wp2_with fail;refine(yD A B n c m d X Y _ hx hy oo oo).mono ?_;rintro e W0⟨rfl,hb0⟩;go_wp2_with fail;refine(vG A B n c m d X Y _ (hx.below hb0) (hy.below hb0) oo HXY.out).mono ?_;rintro e W⟨A1,n1,c1,rfl,h1,hb1,_⟩;have hb:=hb0.trans (hb1.mono hb0.size);clear hb0 hb1;have hn1:=h1.le (K:=201) (AS oo (pow401.out X Y hX.out hY.out));go_wp2_with fail;refine(vi false hz _ h1 oo).mono ?_;rintro e W2⟨rfl,hb2⟩;go_wp2;refine bodyPost_ret (v:=.tuple #[.string ⟨(jn z).toArray⟩,.int .i64 (qH z)]) ?res rfl ⟨rfl,hb.trans (hb2.mono hb.size)⟩
   case res=>simp[results,f187,go_sem]
  ·have hz:Hid (sv true (Y-X)=z):=hid (by rw[<- hs.out];simp[sv];try omega);have hcz:kp (X:Int) (Y:Int)<0:=by unfold kp;split<;>(try split)<;>omega
   have HXY:=hid hxy;clear hs hxy;go_enter func187,ntmps187;go_wp2_with fail;refine(yD A B n c m d X Y _ hx hy oo oo).mono ?_;rintro e W0⟨rfl,hb0⟩;go_wp2_with fail;refine(vG B A m d n c Y X _ (hy.below hb0) (hx.below hb0) oo (by have:=HXY.out;omega)).mono ?_;rintro e W⟨A1,n1,c1,rfl,h1,hb1,_⟩;have hb:=hb0.trans (hb1.mono hb0.size);clear hb0 hb1;have hn1:=h1.le (K:=201) (AS oo (pow401.out X Y hX.out hY.out));go_wp2_with fail;refine(vi true hz _ h1 oo).mono ?_;rintro e W2⟨rfl,hb2⟩;go_wp2;refine bodyPost_ret (v:=.tuple #[.string ⟨(jn z).toArray⟩,.int .i64 (qH z)]) ?res rfl ⟨rfl,hb.trans (hb2.mono hb.size)⟩
   case res=>simp[results,f187,go_sem]
 ·by_cases hxy:Y<=X
  ·have hz:Hid (sv true (X-Y)=z):=hid (by rw[<- hs.out];simp[sv];try omega);have hcz:0<=kp (X:Int) (Y:Int):=by unfold kp;split<;>(try split)<;>omega
   have HXY:=hid hxy;clear hs hxy;go_enter func187,ntmps187;go_wp2_with fail;refine(yD A B n c m d X Y _ hx hy oo oo).mono ?_;rintro e W0⟨rfl,hb0⟩;go_wp2_with fail;refine(vG A B n c m d X Y _ (hx.below hb0) (hy.below hb0) oo HXY.out).mono ?_;rintro e W⟨A1,n1,c1,rfl,h1,hb1,_⟩;have hb:=hb0.trans (hb1.mono hb0.size);clear hb0 hb1;have hn1:=h1.le (K:=201) (AS oo (pow401.out X Y hX.out hY.out));go_wp2_with fail;refine(vi true hz _ h1 oo).mono ?_;rintro e W2⟨rfl,hb2⟩;go_wp2;refine bodyPost_ret (v:=.tuple #[.string ⟨(jn z).toArray⟩,.int .i64 (qH z)]) ?res rfl ⟨rfl,hb.trans (hb2.mono hb.size)⟩
   case res=>simp[results,f187,go_sem]
  ·have hz:Hid (sv false (Y-X)=z):=hid (by rw[<- hs.out];simp[sv];try omega);have hcz:kp (X:Int) (Y:Int)<0:=by unfold kp;split<;>(try split)<;>omega
   have HXY:=hid hxy;clear hs hxy;go_enter func187,ntmps187;go_wp2_with fail;refine(yD A B n c m d X Y _ hx hy oo oo).mono ?_;rintro e W0⟨rfl,hb0⟩;go_wp2_with fail;refine(vG B A m d n c Y X _ (hy.below hb0) (hx.below hb0) oo (by have:=HXY.out;omega)).mono ?_;rintro e W⟨A1,n1,c1,rfl,h1,hb1,_⟩;have hb:=hb0.trans (hb1.mono hb0.size);clear hb0 hb1;have hn1:=h1.le (K:=201) (AS oo (pow401.out X Y hX.out hY.out));go_wp2_with fail;refine(vi false hz _ h1 oo).mono ?_;rintro e W2⟨rfl,hb2⟩;go_wp2;refine bodyPost_ret (v:=.tuple #[.string ⟨(jn z).toArray⟩,.int .i64 (qH z)]) ?res rfl ⟨rfl,hb.trans (hb2.mono hb.size)⟩
   case res=>simp[results,f187,go_sem]
 ·have hz:Hid (sv true (X+Y)=z):=hid (by rw[<- hs.out];simp[sv];try omega);clear hs;go_enter func187,ntmps187;go_wp2_with fail;refine(qan A B n c m d X Y _ hx hy oo oo).mono ?_;rintro e W⟨A1,n1,c1,rfl,h1,hb,_⟩;have hn1:=h1.le (K:=201) (AS oo (pow401.out X Y hX.out hY.out));go_wp2_with fail;refine(vi true hz _ h1 oo).mono ?_;rintro e W2⟨rfl,hb2⟩;go_wp2;refine bodyPost_ret (v:=.tuple #[.string ⟨(jn z).toArray⟩,.int .i64 (qH z)]) ?res rfl ⟨rfl,hb.trans (hb2.mono hb.size)⟩
  case res=>simp[results,f187,go_sem]
theorem kaX{a b:ByteArray}{x y c:Int}(ha:Is a x)(hb:Is b y)(hc:Hid (kp x y=c))(hx:Fits x)(hy:Fits y)(w:World) :
  Calls prog 92 #[.string a,.string b] w (jB c w):=by
 by_cases h1:x<0<;>by_cases h2:y<0
 ·have hx0:decide (x<0)=true:=by simp;omega
  have hy0:decide (y<0)=true:=by simp;omega
  have hcc:kp (y.natAbs:Int) (x.natAbs:Int)=c:=by rw[<- hc.out];unfold kp;split<;>split<;>first|rfl|omega|(split<;>first|rfl|omega|(split<;>first|rfl|omega))
  have HC:=hid hcc;clear hcc h1 h2;go_enter func92,ntmps92;go_wp2_with fail;refine(kh ha hx _).mono ?_;rintro e W⟨rfl,rfl⟩;go_wp2_with fail;refine(kh hb hy _).mono ?_;rintro e W⟨rfl,rfl⟩;go_wp2_with fail;refine(vf ha hx _).mono ?_;rintro e W⟨A1,n1,c1,rfl,D1,hb1⟩;rw[hx0];go_wp2_with fail;refine(vf hb hy _).mono ?_;rintro e W⟨A2,n2,c2,rfl,D2,hb2⟩;rw[hy0];have hB:=hb1.trans (hb2.mono hb1.size);have D1':=D1.below hb2;have L1:=D1'.le hx;have L2:=D2.le hy;clear D1 hb1 hb2 hx0 hy0;go_wp2_with fail;refine(yD A2 A1 n2 c2 n1 c1 _ _ _ D2 D1' oo oo).mono ?_;rintro e W9⟨rfl,hb9⟩;rw[HC.out];go_wp2;go_ret;exact⟨rfl,hB.trans (hb9.mono hB.size)⟩
 ·have hx0:decide (x<0)=true:=by simp;omega
  have hy0:decide (y<0)=false:=by simp;omega
  obtain rfl:c = -1:=by rw[<- hc.out];unfold kp;rw[if_pos oo]
  clear h1 h2;go_enter func92,ntmps92;go_wp2_with fail;refine(kh ha hx _).mono ?_;rintro e W⟨rfl,rfl⟩;go_wp2_with fail;refine(kh hb hy _).mono ?_;rintro e W⟨rfl,rfl⟩;go_wp2_with fail;refine(vf ha hx _).mono ?_;rintro e W⟨A1,n1,c1,rfl,D1,hb1⟩;rw[hx0];go_wp2_with fail;refine(vf hb hy _).mono ?_;rintro e W⟨A2,n2,c2,rfl,D2,hb2⟩;rw[hy0];have hB:=hb1.trans (hb2.mono hb1.size);have D1':=D1.below hb2;have L1:=D1'.le hx;have L2:=D2.le hy;clear D1 hb1 hb2 hx0 hy0;go_wp2;go_ret;exact⟨rfl,hB⟩
 ·have hx0:decide (x<0)=false:=by simp;omega
  have hy0:decide (y<0)=true:=by simp;omega
  obtain rfl:c=1:=by rw[<- hc.out];unfold kp;rw[if_neg oo,if_pos oo]
  clear h1 h2;go_enter func92,ntmps92;go_wp2_with fail;refine(kh ha hx _).mono ?_;rintro e W⟨rfl,rfl⟩;go_wp2_with fail;refine(kh hb hy _).mono ?_;rintro e W⟨rfl,rfl⟩;go_wp2_with fail;refine(vf ha hx _).mono ?_;rintro e W⟨A1,n1,c1,rfl,D1,hb1⟩;rw[hx0];go_wp2_with fail;refine(vf hb hy _).mono ?_;rintro e W⟨A2,n2,c2,rfl,D2,hb2⟩;rw[hy0];have hB:=hb1.trans (hb2.mono hb1.size);have D1':=D1.below hb2;have L1:=D1'.le hx;have L2:=D2.le hy;clear D1 hb1 hb2 hx0 hy0;go_wp2;go_ret;exact⟨rfl,hB⟩
 ·have hx0:decide (x<0)=false:=by simp;omega
  have hy0:decide (y<0)=false:=by simp;omega
  have hcc:kp (x.natAbs:Int) (y.natAbs:Int)=c:=by rw[<- hc.out,show(x.natAbs:Int)=x by omega,show(y.natAbs:Int)=y by omega]
  have HC:=hid hcc;clear hcc h1 h2;go_enter func92,ntmps92;go_wp2_with fail;refine(kh ha hx _).mono ?_;rintro e W⟨rfl,rfl⟩;go_wp2_with fail;refine(kh hb hy _).mono ?_;rintro e W⟨rfl,rfl⟩;go_wp2_with fail;refine(vf ha hx _).mono ?_;rintro e W⟨A1,n1,c1,rfl,D1,hb1⟩;rw[hx0];go_wp2_with fail;refine(vf hb hy _).mono ?_;rintro e W⟨A2,n2,c2,rfl,D2,hb2⟩;rw[hy0];have hB:=hb1.trans (hb2.mono hb1.size);have D1':=D1.below hb2;have L1:=D1'.le hx;have L2:=D2.le hy;clear D1 hb1 hb2 hx0 hy0;go_wp2_with fail;refine(yD A1 A2 n1 c1 n2 c2 _ _ _ D1' D2 oo oo).mono ?_;rintro e W9⟨rfl,hb9⟩;rw[HC.out];go_wp2;go_ret;exact⟨rfl,hB.trans (hb9.mono hB.size)⟩
theorem yat{a:ByteArray}(h:ks a.data.toList=true)(hs:Str a)(w:World):Calls prog 91 #[.string a] w (qbM true w):=by
 have:=kat a w hs
 rwa[h]at this
theorem zcp{a b:ByteArray}{x y z:Int}(ha:Is a x)(hb:Is b y)(hz:Hid (x+y=z))(hx:Fits x)(hy:Fits y)(w:World) :
  Calls prog 161 #[.string a,.string b] w (zaA z w):=by
 have sx:=kX x;have sy:=kX y;have hX:Hid (x.natAbs<10^200):=hx;have hY:Hid (y.natAbs<10^200):=hy;have hs:Hid (sv (decide (x<0)) x.natAbs+sv (decide (y<0)) y.natAbs=z):=hid (by rw[sx,sy];exact hz.out);clear sx sy;go_enter func161,ntmps161;go_wp2_with fail;refine(kh ha hx _).mono ?_;rintro e W⟨rfl,rfl⟩;go_wp2_with fail;refine(kh hb hy _).mono ?_;rintro e W⟨rfl,rfl⟩;go_wp2_with fail;refine(vf ha hx _).mono ?_;rintro e W⟨A1,n1,c1,rfl,D1,hb1⟩;go_wp2_with fail;refine(vf hb hy _).mono ?_;rintro e W⟨A2,n2,c2,rfl,D2,hb2⟩;have hB:=hb1.trans (hb2.mono hb1.size);have D1':=D1.below hb2;clear D1 hb1 hb2;generalize decide (x<0)=dx at *;generalize decide (y<0)=dy at *;go_wp2_with fail;refine(zbx dx dy A1 A2 n1 c1 n2 c2 _ _ z _ hs D1' D2 hX hY).mono ?_;rintro e W9⟨rfl,hb9⟩;go_wp2;refine bodyPost_ret (v:=.tuple #[.string ⟨(jn z).toArray⟩,.int .i64 (qH z)]) ?res rfl ⟨rfl,hB.trans (hb9.mono hB.size)⟩
 case res=>simp[results,f161,go_sem]
theorem qcq{a b:ByteArray}{x y z:Int}(ha:Is a x)(hb:Is b y)(hz:Hid (x-y=z))(hx:Fits x)(hy:Fits y)(w:World) :
  Calls prog 154 #[.string a,.string b] w (zaA z w):=by
 have sx:=kX x;have sy:=kX y;have hX:Hid (x.natAbs<10^200):=hx;have hY:Hid (y.natAbs<10^200):=hy;have sy':sv (!decide (y<0)) y.natAbs = -y:=by
  generalize decide (y<0)=d at *
  cases d<;>simp[sv]at * <;> omega
 have hs:Hid (sv (decide (x<0)) x.natAbs+sv (!decide (y<0)) y.natAbs=z):=hid (by rw[sx,sy',<- Int.sub_eq_add_neg];exact hz.out);clear sx sy sy';go_enter func154,ntmps154;go_wp2_with fail;refine(kh ha hx _).mono ?_;rintro e W⟨rfl,rfl⟩;go_wp2_with fail;refine(kh hb hy _).mono ?_;rintro e W⟨rfl,rfl⟩;go_wp2_with fail;refine(vf ha hx _).mono ?_;rintro e W⟨A1,n1,c1,rfl,D1,hb1⟩;go_wp2_with fail;refine(vf hb hy _).mono ?_;rintro e W⟨A2,n2,c2,rfl,D2,hb2⟩;have hB:=hb1.trans (hb2.mono hb1.size);have D1':=D1.below hb2;clear D1 hb1 hb2;generalize decide (x<0)=dx at *;generalize decide (y<0)=dy at *;go_wp2_with fail;refine(zbx dx (!dy) A1 A2 n1 c1 n2 c2 _ _ z _ hs D1' D2 hX hY).mono ?_;rintro e W9⟨rfl,hb9⟩;go_wp2;refine bodyPost_ret (v:=.tuple #[.string ⟨(jn z).toArray⟩,.int .i64 (qH z)]) ?res rfl ⟨rfl,hB.trans (hb9.mono hB.size)⟩
 case res=>simp[results,f154,go_sem]
theorem zan{a b:ByteArray}{x y z:Int}(ha:Is a x)(hb:Is b y)(hz:Hid (x*y=z))(hx:Fits x)(hy:Fits y)(w:World) :
  Calls prog 162 #[.string a,.string b] w (zaA z w):=by
 have sx:=kX x;have sy:=kX y;have hX:Hid (x.natAbs<10^200):=hx;have hY:Hid (y.natAbs<10^200):=hy;have hs:Hid (sv (decide (x<0) != decide (y<0)) (x.natAbs*y.natAbs)=z):=hid (by rw[kcv];exact hz.out);clear sx sy;go_enter func162,ntmps162;go_wp2_with fail;refine(kh ha hx _).mono ?_;rintro e W⟨rfl,rfl⟩;go_wp2_with fail;refine(kh hb hy _).mono ?_;rintro e W⟨rfl,rfl⟩;go_wp2_with fail;refine(vf ha hx _).mono ?_;rintro e W⟨A1,n1,c1,rfl,D1,hb1⟩;go_wp2_with fail;refine(vf hb hy _).mono ?_;rintro e W⟨A2,n2,c2,rfl,D2,hb2⟩;have hB:=hb1.trans (hb2.mono hb1.size);have D1':=D1.below hb2;clear D1 hb1 hb2;have L1:=D1'.le hX.out;have L2:=D2.le hY.out;generalize decide (x<0)=dx at *;generalize decide (y<0)=dy at *;go_wp2_with fail;refine(qbI A1 A2 n1 c1 n2 c2 _ _ _ D1' D2 oo oo).mono ?_;rintro e W8⟨A3,n3,c3,rfl,h3,hb8,_⟩;have hB8:=hB.trans (hb8.mono hB.size);have L3:=h3.len400 L1 L2 D1' D2 hb8
 cases dx<;>cases dy
 all_goals go_wp2_with fail
 ·refine(vi false hs _ h3 oo).mono ?_;rintro e W9⟨rfl,hb9⟩;go_wp2;refine bodyPost_ret (v:=.tuple #[.string ⟨(jn z).toArray⟩,.int .i64 (qH z)]) ?res rfl ⟨rfl,hB8.trans (hb9.mono hB8.size)⟩
  case res=>simp[results,f162,go_sem]
 ·refine(vi true hs _ h3 oo).mono ?_;rintro e W9⟨rfl,hb9⟩;go_wp2;refine bodyPost_ret (v:=.tuple #[.string ⟨(jn z).toArray⟩,.int .i64 (qH z)]) ?res rfl ⟨rfl,hB8.trans (hb9.mono hB8.size)⟩
  case res=>simp[results,f162,go_sem]
 ·refine(vi true hs _ h3 oo).mono ?_;rintro e W9⟨rfl,hb9⟩;go_wp2;refine bodyPost_ret (v:=.tuple #[.string ⟨(jn z).toArray⟩,.int .i64 (qH z)]) ?res rfl ⟨rfl,hB8.trans (hb9.mono hB8.size)⟩
  case res=>simp[results,f162,go_sem]
 ·refine(vi false hs _ h3 oo).mono ?_;rintro e W9⟨rfl,hb9⟩;go_wp2;refine bodyPost_ret (v:=.tuple #[.string ⟨(jn z).toArray⟩,.int .i64 (qH z)]) ?res rfl ⟨rfl,hB8.trans (hb9.mono hB8.size)⟩
  case res=>simp[results,f162,go_sem]
theorem zbu(w:World):IsD (w.alloc (.cells #[.int .i64 1] 3)) (some ⟨w.heap.size,0,none⟩) 1 1 1:=by
 have hlit:=World.ownsRow_lit (base:=w.heap.size) (e:=3) (size:=1) w #[.int .i64 1] 1 (Am _) (by unfold maxLen;omega) rfl;exact⟨[1],BJ hlit,⟨Du dd zo,by decide⟩,by simp[zf],Am _⟩
theorem zcF{X Y:Nat}(h:X<10^200):X/Y+1<10^201:=by
 have:=BQ X Y;rw[show(201:Nat)=200+1 from rfl,Bn];generalize (10:Nat)^200=T at *;omega
theorem zb5{a b:ByteArray}{x y:Int}(ha:Is a x)(hb:Is b y)(hx:Fits x)(hy:Fits y)(hy0:y≠0)(w:World) :
  Calls prog 103 #[.string a,.string b] w (yaK (x/y) (x%y) w):=by
 obtain⟨fq,fr⟩:=ybr hx hy hy0;have TQ:=hid (jJ fq);have EQ:=hid (qQ fq);have HY0:Hid (0<y.natAbs):=hid oo;have LS:Hid (x.natAbs/y.natAbs+1<10^201):=hid (zcF hx);have nz:(b.toList==[48])=false:=by rw[hb.eq];exact kaA hy0
 by_cases hc:0<=x\/x.natAbs%y.natAbs=0
 ·obtain⟨hq0,hr0⟩:=qa4 x y hy0 hc;clear hy0;by_cases hx1:x<0<;>by_cases hy1:y<0
  ·have hx0:decide (x<0)=true:=by simp;omega
   have hy0':decide (y<0)=true:=by simp;omega
   have hzq:Hid (sv false (x.natAbs/y.natAbs)=x/y):=hid (by have h:=hq0;rw[if_pos oo]at h;simpa[sv]using h);have hzr:Hid (sv false (x.natAbs%y.natAbs)=x%y):=hid (by simpa[sv]using hr0);have HR0:=hid (show x.natAbs%y.natAbs=0 by omega);clear hq0 hr0 hc hx1 hy1;go_enter func103,ntmps103;go_wp2_with fail;refine(kh ha hx _).mono ?_;rintro e W⟨rfl,rfl⟩;go_wp2_with fail;refine(kh hb hy _).mono ?_;rintro e W⟨rfl,rfl⟩;go_wp2_with fail;refine(vf ha hx _).mono ?_;rintro e W⟨A1,n1,c1,rfl,D1,hb1⟩;rw[hx0];go_wp2_with fail;refine(vf hb hy _).mono ?_;rintro e W⟨A2,n2,c2,rfl,D2,hb2⟩;rw[hy0'];have hB:=hb1.trans (hb2.mono hb1.size);have D1':=D1.below hb2;clear D1 hb1 hb2;clear hx0 hy0';have L1:=D1'.le hx;have L2:=D2.le hy;go_wp2_with fail;refine(yA A1 A2 n1 c1 n2 c2 _ _ _ D1' D2 L1 L2 HY0.out).mono ?_;rintro e W3⟨Aq,nq,cq,Ar,nr,cr,rfl,hq,hr,hb3⟩;have hB3:=hB.trans (hb3.mono hB.size);have Lq:nq<=200:=hq.le (AS (BQ _ _) hx);have Lr:nr<=200:=hr.le (BY (BA _ HY0.out) hy);obtain rfl:nr=0:=hr.zero.2 HR0.out;go_wp2_with fail;refine(vi false hzq _ hq oo).mono ?_;rintro e W4⟨rfl,hb4⟩;rw[TQ.out,EQ.out];have hB4:=hB3.trans (hb4.mono hB3.size);go_wp2_with fail;refine(jaf false hzr _ (hr.below hb4) oo).mono ?_;rintro e W5⟨rfl,hb5⟩;go_wp2;refine bodyPost_ret (v:=.tuple #[.string (S (x/y)),.string (S (x%y)),.int .i64 0]) ?res rfl ⟨rfl,hB4.trans (hb5.mono hB4.size)⟩
   case res=>simp[results,f103,go_sem]
  ·have hx0:decide (x<0)=true:=by simp;omega
   have hy0':decide (y<0)=false:=by simp;omega
   have hzq:Hid (sv true (x.natAbs/y.natAbs)=x/y):=hid (by have h:=hq0;rw[if_neg oo]at h;simpa[sv]using h);have hzr:Hid (sv false (x.natAbs%y.natAbs)=x%y):=hid (by simpa[sv]using hr0);have HR0:=hid (show x.natAbs%y.natAbs=0 by omega);clear hq0 hr0 hc hx1 hy1;go_enter func103,ntmps103;go_wp2_with fail;refine(kh ha hx _).mono ?_;rintro e W⟨rfl,rfl⟩;go_wp2_with fail;refine(kh hb hy _).mono ?_;rintro e W⟨rfl,rfl⟩;go_wp2_with fail;refine(vf ha hx _).mono ?_;rintro e W⟨A1,n1,c1,rfl,D1,hb1⟩;rw[hx0];go_wp2_with fail;refine(vf hb hy _).mono ?_;rintro e W⟨A2,n2,c2,rfl,D2,hb2⟩;rw[hy0'];have hB:=hb1.trans (hb2.mono hb1.size);have D1':=D1.below hb2;clear D1 hb1 hb2;clear hx0 hy0';have L1:=D1'.le hx;have L2:=D2.le hy;go_wp2_with fail;refine(yA A1 A2 n1 c1 n2 c2 _ _ _ D1' D2 L1 L2 HY0.out).mono ?_;rintro e W3⟨Aq,nq,cq,Ar,nr,cr,rfl,hq,hr,hb3⟩;have hB3:=hB.trans (hb3.mono hB.size);have Lq:nq<=200:=hq.le (AS (BQ _ _) hx);have Lr:nr<=200:=hr.le (BY (BA _ HY0.out) hy);obtain rfl:nr=0:=hr.zero.2 HR0.out;go_wp2_with fail;refine(vi true hzq _ hq oo).mono ?_;rintro e W4⟨rfl,hb4⟩;rw[TQ.out,EQ.out];have hB4:=hB3.trans (hb4.mono hB3.size);go_wp2_with fail;refine(jaf false hzr _ (hr.below hb4) oo).mono ?_;rintro e W5⟨rfl,hb5⟩;go_wp2;refine bodyPost_ret (v:=.tuple #[.string (S (x/y)),.string (S (x%y)),.int .i64 0]) ?res rfl ⟨rfl,hB4.trans (hb5.mono hB4.size)⟩
   case res=>simp[results,f103,go_sem]
  ·have hx0:decide (x<0)=false:=by simp;omega
   have hy0':decide (y<0)=true:=by simp;omega
   have hzq:Hid (sv true (x.natAbs/y.natAbs)=x/y):=hid (by have h:=hq0;rw[if_neg oo]at h;simpa[sv]using h);have hzr:Hid (sv false (x.natAbs%y.natAbs)=x%y):=hid (by simpa[sv]using hr0);clear hq0 hr0 hc hx1 hy1;go_enter func103,ntmps103;go_wp2_with fail;refine(kh ha hx _).mono ?_;rintro e W⟨rfl,rfl⟩;go_wp2_with fail;refine(kh hb hy _).mono ?_;rintro e W⟨rfl,rfl⟩;go_wp2_with fail;refine(vf ha hx _).mono ?_;rintro e W⟨A1,n1,c1,rfl,D1,hb1⟩;rw[hx0];go_wp2_with fail;refine(vf hb hy _).mono ?_;rintro e W⟨A2,n2,c2,rfl,D2,hb2⟩;rw[hy0'];have hB:=hb1.trans (hb2.mono hb1.size);have D1':=D1.below hb2;clear D1 hb1 hb2;clear hx0 hy0';have L1:=D1'.le hx;have L2:=D2.le hy;go_wp2_with fail;refine(yA A1 A2 n1 c1 n2 c2 _ _ _ D1' D2 L1 L2 HY0.out).mono ?_;rintro e W3⟨Aq,nq,cq,Ar,nr,cr,rfl,hq,hr,hb3⟩;have hB3:=hB.trans (hb3.mono hB.size);have Lq:nq<=200:=hq.le (AS (BQ _ _) hx);have Lr:nr<=200:=hr.le (BY (BA _ HY0.out) hy);go_wp2_with fail;refine(vi true hzq _ hq oo).mono ?_;rintro e W4⟨rfl,hb4⟩;rw[TQ.out,EQ.out];have hB4:=hB3.trans (hb4.mono hB3.size);go_wp2_with fail;refine(jaf false hzr _ (hr.below hb4) oo).mono ?_;rintro e W5⟨rfl,hb5⟩;go_wp2;refine bodyPost_ret (v:=.tuple #[.string (S (x/y)),.string (S (x%y)),.int .i64 0]) ?res rfl ⟨rfl,hB4.trans (hb5.mono hB4.size)⟩
   case res=>simp[results,f103,go_sem]
  ·have hx0:decide (x<0)=false:=by simp;omega
   have hy0':decide (y<0)=false:=by simp;omega
   have hzq:Hid (sv false (x.natAbs/y.natAbs)=x/y):=hid (by have h:=hq0;rw[if_pos oo]at h;simpa[sv]using h);have hzr:Hid (sv false (x.natAbs%y.natAbs)=x%y):=hid (by simpa[sv]using hr0);clear hq0 hr0 hc hx1 hy1;go_enter func103,ntmps103;go_wp2_with fail;refine(kh ha hx _).mono ?_;rintro e W⟨rfl,rfl⟩;go_wp2_with fail;refine(kh hb hy _).mono ?_;rintro e W⟨rfl,rfl⟩;go_wp2_with fail;refine(vf ha hx _).mono ?_;rintro e W⟨A1,n1,c1,rfl,D1,hb1⟩;rw[hx0];go_wp2_with fail;refine(vf hb hy _).mono ?_;rintro e W⟨A2,n2,c2,rfl,D2,hb2⟩;rw[hy0'];have hB:=hb1.trans (hb2.mono hb1.size);have D1':=D1.below hb2;clear D1 hb1 hb2;clear hx0 hy0';have L1:=D1'.le hx;have L2:=D2.le hy;go_wp2_with fail;refine(yA A1 A2 n1 c1 n2 c2 _ _ _ D1' D2 L1 L2 HY0.out).mono ?_;rintro e W3⟨Aq,nq,cq,Ar,nr,cr,rfl,hq,hr,hb3⟩;have hB3:=hB.trans (hb3.mono hB.size);have Lq:nq<=200:=hq.le (AS (BQ _ _) hx);have Lr:nr<=200:=hr.le (BY (BA _ HY0.out) hy);go_wp2_with fail;refine(vi false hzq _ hq oo).mono ?_;rintro e W4⟨rfl,hb4⟩;rw[TQ.out,EQ.out];have hB4:=hB3.trans (hb4.mono hB3.size);go_wp2_with fail;refine(jaf false hzr _ (hr.below hb4) oo).mono ?_;rintro e W5⟨rfl,hb5⟩;go_wp2;refine bodyPost_ret (v:=.tuple #[.string (S (x/y)),.string (S (x%y)),.int .i64 0]) ?res rfl ⟨rfl,hB4.trans (hb5.mono hB4.size)⟩
   case res=>simp[results,f103,go_sem]
 ·have hx1:x<0:=oo
  obtain⟨hq0,hr0⟩:=za4 x y hy0 hx1 (fun e=>hc (.inr e));clear hy0;by_cases hy1:y<0
  ·have hx0:decide (x<0)=true:=by simp;omega
   have hy0':decide (y<0)=true:=by simp;omega
   have hzq:Hid (sv false (x.natAbs/y.natAbs+1)=x/y):=hid (by have h:=hq0;rw[if_pos oo]at h;simpa[sv]using h);have hzr:Hid (sv false (y.natAbs-x.natAbs%y.natAbs)=x%y):=hid (by simpa[sv]using hr0);have HR0:=hid (show 0<x.natAbs%y.natAbs by omega);clear hq0 hr0 hc hx1 hy1;go_enter func103,ntmps103;go_wp2_with fail;refine(kh ha hx _).mono ?_;rintro e W⟨rfl,rfl⟩;go_wp2_with fail;refine(kh hb hy _).mono ?_;rintro e W⟨rfl,rfl⟩;go_wp2_with fail;refine(vf ha hx _).mono ?_;rintro e W⟨A1,n1,c1,rfl,D1,hb1⟩;rw[hx0];go_wp2_with fail;refine(vf hb hy _).mono ?_;rintro e W⟨A2,n2,c2,rfl,D2,hb2⟩;rw[hy0'];have hB:=hb1.trans (hb2.mono hb1.size);have D1':=D1.below hb2;clear D1 hb1 hb2;clear hx0 hy0';have L1:=D1'.le hx;have L2:=D2.le hy;go_wp2_with fail;refine(yA A1 A2 n1 c1 n2 c2 _ _ _ D1' D2 L1 L2 HY0.out).mono ?_;rintro e W3⟨Aq,nq,cq,Ar,nr,cr,rfl,hq,hr,hb3⟩;have hB3:=hB.trans (hb3.mono hB.size);have Lq:nq<=200:=hq.le (AS (BQ _ _) hx);have Lr:nr<=200:=hr.le (BY (BA _ HY0.out) hy);have hnr:0<nr:=by
    rcases Az nr with h|h
    ·have:=hr.zero.1 h;have:=HR0.out;omega
    ·exact h
   have hY3:=D2.below hb3;go_wp2_with fail;refine(qan Aq (some ⟨W3.heap.size,0,none⟩) nq cq 1 1 _ 1 _ (hq.below ((Au _ W3).alloc (Am _) _)) (zbu W3) oo oo).mono ?_;rintro e W4⟨As,ns,cs,rfl,hs,hb4',_⟩;have hb4:Below W3.heap.size W3 W4:=((Au _ W3).alloc (Am _) _).trans (hb4'.mono (by simp));have hB4:=hB3.trans (hb4.mono hB3.size);go_wp2_with fail;refine(vG A2 Ar n2 c2 nr cr _ _ _ (hY3.below hb4) (hr.below hb4) oo (Ch (BA _ HY0.out))).mono ?_;rintro e W5⟨Ad,nd,cd,rfl,hd,hb5,_⟩;have hB5:=hB4.trans (hb5.mono hB4.size);have Ls:ns<=201:=hs.le LS.out;have Ld:nd<=200:=hd.le (AS (Nat.sub_le _ _) hy);go_wp2_with fail;refine(vi false hzq _ (hs.below hb5) oo).mono ?_;rintro e W6⟨rfl,hb6⟩;rw[TQ.out,EQ.out];have hB6:=hB5.trans (hb6.mono hB5.size);go_wp2_with fail;refine(jaf false hzr _ (hd.below hb6) oo).mono ?_;rintro e W7⟨rfl,hb7⟩;go_wp2;refine bodyPost_ret (v:=.tuple #[.string (S (x/y)),.string (S (x%y)),.int .i64 0]) ?res rfl ⟨rfl,hB6.trans (hb7.mono hB6.size)⟩
   case res=>simp[results,f103,go_sem]
  ·have hx0:decide (x<0)=true:=by simp;omega
   have hy0':decide (y<0)=false:=by simp;omega
   have hzq:Hid (sv true (x.natAbs/y.natAbs+1)=x/y):=hid (by have h:=hq0;rw[if_neg oo]at h;simpa[sv]using h);have hzr:Hid (sv false (y.natAbs-x.natAbs%y.natAbs)=x%y):=hid (by simpa[sv]using hr0);have HR0:=hid (show 0<x.natAbs%y.natAbs by omega);clear hq0 hr0 hc hx1 hy1;go_enter func103,ntmps103;go_wp2_with fail;refine(kh ha hx _).mono ?_;rintro e W⟨rfl,rfl⟩;go_wp2_with fail;refine(kh hb hy _).mono ?_;rintro e W⟨rfl,rfl⟩;go_wp2_with fail;refine(vf ha hx _).mono ?_;rintro e W⟨A1,n1,c1,rfl,D1,hb1⟩;rw[hx0];go_wp2_with fail;refine(vf hb hy _).mono ?_;rintro e W⟨A2,n2,c2,rfl,D2,hb2⟩;rw[hy0'];have hB:=hb1.trans (hb2.mono hb1.size);have D1':=D1.below hb2;clear D1 hb1 hb2;clear hx0 hy0';have L1:=D1'.le hx;have L2:=D2.le hy;go_wp2_with fail;refine(yA A1 A2 n1 c1 n2 c2 _ _ _ D1' D2 L1 L2 HY0.out).mono ?_;rintro e W3⟨Aq,nq,cq,Ar,nr,cr,rfl,hq,hr,hb3⟩;have hB3:=hB.trans (hb3.mono hB.size);have Lq:nq<=200:=hq.le (AS (BQ _ _) hx);have Lr:nr<=200:=hr.le (BY (BA _ HY0.out) hy);have hnr:0<nr:=by
    rcases Az nr with h|h
    ·have:=hr.zero.1 h;have:=HR0.out;omega
    ·exact h
   have hY3:=D2.below hb3;go_wp2_with fail;refine(qan Aq (some ⟨W3.heap.size,0,none⟩) nq cq 1 1 _ 1 _ (hq.below ((Au _ W3).alloc (Am _) _)) (zbu W3) oo oo).mono ?_;rintro e W4⟨As,ns,cs,rfl,hs,hb4',_⟩;have hb4:Below W3.heap.size W3 W4:=((Au _ W3).alloc (Am _) _).trans (hb4'.mono (by simp));have hB4:=hB3.trans (hb4.mono hB3.size);go_wp2_with fail;refine(vG A2 Ar n2 c2 nr cr _ _ _ (hY3.below hb4) (hr.below hb4) oo (Ch (BA _ HY0.out))).mono ?_;rintro e W5⟨Ad,nd,cd,rfl,hd,hb5,_⟩;have hB5:=hB4.trans (hb5.mono hB4.size);have Ls:ns<=201:=hs.le LS.out;have Ld:nd<=200:=hd.le (AS (Nat.sub_le _ _) hy);go_wp2_with fail;refine(vi true hzq _ (hs.below hb5) oo).mono ?_;rintro e W6⟨rfl,hb6⟩;rw[TQ.out,EQ.out];have hB6:=hB5.trans (hb6.mono hB5.size);go_wp2_with fail;refine(jaf false hzr _ (hd.below hb6) oo).mono ?_;rintro e W7⟨rfl,hb7⟩;go_wp2;refine bodyPost_ret (v:=.tuple #[.string (S (x/y)),.string (S (x%y)),.int .i64 0]) ?res rfl ⟨rfl,hB6.trans (hb7.mono hB6.size)⟩
   case res=>simp[results,f103,go_sem]
theorem qcp{a b:ByteArray}{x y q r:Int}(ha:Is a x)(hb:Is b y)(hq:Hid (x/y=q))(hr:Hid (x%y=r))(hx:Fits x)(hy:Fits y)(hy0:Hid (y≠0))(w:World) :
  Calls prog 103 #[.string a,.string b] w (yaK q r w):=by
 have:=zb5 ha hb hx hy hy0.out w;rw[hq.out,hr.out]at this;exact this
theorem vcF{a b:ByteArray}{x y v:Int}(ha:Is a x)(hb:Is b y)(hv:Hid (((x.natAbs.gcd y.natAbs:Nat):Int)=v))(hx:Fits x)(hy:Fits y)(w:World) :
  Calls prog 93 #[.string a,.string b] w (vX v w):=by
 have hX:Hid (x.natAbs<10^200):=hx;have hY:Hid (y.natAbs<10^200):=hy;have fg:Fits v:=by rw[<- hv.out];exact vak hx hy
 go_enter func93,ntmps93;go_wp2_with fail;refine(kh ha hx _).mono ?_;rintro e W⟨rfl,hw⟩;rw[hw];clear hw W;go_wp2_with fail;refine(kh hb hy _).mono ?_;rintro e W⟨rfl,hw⟩;rw[hw];clear hw W;go_wp2_with fail;refine(vf ha hx _).mono ?_;rintro e W⟨A1,n1,c1,rfl,D1,hb1⟩;go_wp2_with fail;refine(vf hb hy _).mono ?_;rintro e W⟨A2,n2,c2,rfl,D2,hb2⟩;have hB:=hb1.trans (hb2.mono hb1.size);have D1':=D1.below hb2;clear D1 hb1 hb2;generalize decide (x<0)=dx at *;generalize decide (y<0)=dy at *;go_wp2;go_loopw[7,9] (fun kv lv wr=>∃(A:En) (n c:Nat) (B:En) (m e p q:Nat),kv=.slice A n c/\lv=.slice B m e/\IsD wr A n c p/\IsD wr B m e q/\Hid (p.gcd q=x.natAbs.gcd y.natAbs)/\Aa w wr/\Hid (p<10^200)/\Hid (q<10^200))
  (fun _ lv wr=>zcV wr lv)
 case atStart=>exact⟨A1,n1,c1,A2,n2,c2,_,_,rfl,rfl,D1',D2,rfl,hB,hX,hY⟩
 case round =>
  clear D1' D2 hB;obtain⟨A,n,c,B,m,e,p,q,rfl,rfl,hp,hq,hg,hBr,HP,HQ⟩:=hrel;have Ln:=hp.le HP.out;have Lm:=hq.le HQ.out;by_cases hz:q=0
  ·have hm0:m=0:=hq.zero.2 hz;subst hm0;have hs:Hid (sv false p=v):=hid (by have h:=hg.out;rw[hz,Nat.gcd_zero_right]at h;rw[<- hv.out,<- h];simp[sv]);have TQ:=hid (jJ fg);have EQ:=hid (qQ fg);clear hz;go_wp2_with fail;refine(vi false hs _ hp oo).mono ?_;rintro e' W4⟨rfl,hb4⟩;rw[TQ.out,EQ.out];go_wp2;refine bodyPost_ret (v:=.tuple #[.string (S v),.int .i64 0]) ?res rfl ⟨rfl,hBr.trans (hb4.mono hBr.size)⟩
   case res=>simp[results,f93,go_sem]
  ·have hm0:0<m:=by
    rcases Az m with h|h
    ·exact absurd (hq.zero.1 h) hz
    ·exact h
   have hqp:Hid (0<q):=hid oo;clear hz;go_wp2_with fail;refine(yA A B n c m e p q _ hp hq oo oo hqp.out).mono ?_;rintro e' w3⟨Aq,nq,cq,Ar,nr,cr,rfl,hqq,hrr,hb3⟩;go_wp2;go_roundw
   case rel=>exact⟨B,m,e,Ar,nr,cr,q,p%q,rfl,rfl,hq.below hb3,hrr,hid (by rw[<- hg.out,Ej p q,Nat.gcd_rec q p,Ej]),hBr.trans (hb3.mono hBr.size),HQ,hid (BY (BA _ hqp.out) HQ.out)⟩
   case measure=>rw[zaW hrr,zaW hq];exact BA _ hqp.out
structure FInv(u m:Nat)(l:List Nat):Prop where
 small:Small10 l
 eq:zf l+10^l.length*m=u
 top:l≠[]->10^(l.length-1)<=u
theorem FInv.start(u:Nat):FInv u u []:=⟨zo,by simp[zf],fun h=>absurd rfl h⟩
theorem FInv.step{u m:Nat}{l:List Nat}(h:FInv u m l)(hm:0<m):FInv u (m/10) (l++[m%10]):=by
 have he:=h.eq;have hdm:=Cp m 10;refine⟨h.small.append (Du (BA _ dd) zo),?_,fun _ => ?_⟩
 ·rw[jM,AQ,AE,Bh,Bj,Bn];generalize m/10=q at *;generalize m%10=r at *;rw[<- hdm,CJ]at he;rw[Bq r,Br];omega
 ·rw[AQ,AE,Bh,Bj,Ca];have:10^l.length<=10^l.length*m:=Nat.le_mul_of_pos_right _ hm;omega
theorem FInv.len{u m:Nat}{l:List Nat}(h:FInv u m l)(hu:u<=9223372036854775808):l.length<=19:=by
 by_cases hl:l=[]
 ·subst hl;simp
 ·have h1:=h.top hl;have h2:(10:Nat)^(l.length-1)<10^19:=by
   have:(9223372036854775808:Nat)<10^19:=by decide
   omega
  have:=(Nat.pow_lt_pow_iff_right (by decide:1<10)).1 h2;omega
theorem FInv.done{u:Nat}{l:List Nat}(h:FInv u 0 l):Norm10 l/\zf l=u:=by
 have hv:zf l=u:=by have:=h.eq;omega
 refine⟨?_,hv⟩;by_cases hl:l=[]
 ·subst hl;exact zad
 ·exact kav h.small hl (by rw[hv];exact h.top hl)
theorem jde(m:Int)(h:m<=0):m.tmod 10<=0/\m.tdiv 10<=0:=by
 obtain⟨p,rfl⟩:∃ p:Int,m = -p:=⟨-m,oo⟩
 rw[Int.neg_tmod,Int.neg_tdiv];have h1:0<=p.tmod 10:=Int.tmod_nonneg _ oo;have h2:0<=p.tdiv 10:=Int.tdiv_nonneg oo oo;omega
theorem FInv.done0{u:Nat}{l:List Nat}(h:FInv u (Int.natAbs 0) l):Norm10 l/\zf l=u:=FInv.done h
theorem jcp(n:Int)(hj:jo n)(hn:0<=n)(w:World):Calls prog 106 #[.int .i64 n] w (kaL n w):=by
 obtain⟨i0,hi,hz0,hz1,hz2⟩:=info_parts kE;have b0:=hj.1;have b1:=hj.2;have hs:Hid (sv false n.natAbs=n):=hid (by simp[sv];omega);have hn9:decide (n<0)=false:=decide_eq_false oo;go_enter func106,ntmps106;go_wp2;go_loopw[3,4] (fun v mv wr=>∃(mm:Int) (k:Nat) (V:En) (cv:Nat) (l:List Nat),v=.slice V k cv/\mv=.int .i64 mm/\wr.ownsRow w.heap.size 3 1 (.slice V k cv) k (kq l)/\Aa w wr/\Hid (FInv n.natAbs mm.natAbs l)/\0<=mm /\ -9223372036854775808<=mm/\mm<=9223372036854775807)
  (fun _ mv _=>(RowKit.intOf mv).natAbs)
 case atStart=>exact⟨n,0,none,0,[],rfl,rfl,World.ownsRow_nil _ _ _ _,Au _ _,FInv.start _,oo,oo,oo⟩
 case round =>
  obtain⟨mm,k,V,cv,l,rfl,rfl,hown,hB,hI,hm0,hm1,hm2⟩:=hrel;have hlen:=hI.out.len oo;have hkl:k=l.length:=by have:=hown.1;simpa[kq]using this.symm
  have hk:k<=19:=oo
  clear hlen hkl;by_cases hz:mm=0
  ·subst hz;have hd:=hid hI.out.done0;clear hI;have hnum:NumV wr V k l:=BJ hown;have hcap:=qS hown;have hisd:IsD wr V k cv n.natAbs:=⟨l,hnum,hd.out.1,hd.out.2,hcap⟩
   go_wp2_with (go_at_call 153;go_must ((with_reducible refine(jaf false hs _ hisd oo).mono ?_);rintro e w2⟨rfl,hb2⟩));go_ret;exact⟨rfl,hB.trans (hb2.mono hB.size)⟩
  ·have hne:(mm==0)=false:=by simpa using hz
   have hst:=hid (hI.out.step oo);have hmp:0<mm:=oo
   have hD:=hid (show(mm%10).toNat=mm.natAbs%10 by omega);have hQ:=hid (show(mm/10).natAbs=mm.natAbs/10 by omega);clear hz;go_wp2_with (at_builtin;refine wpList_append_own _ rfl (.tmp 19) (.tmp 21) 146 rfl w.heap.size 3 i0 (.int .i64 0) 1 8 underlying146 hi hz0 hz1 hz2 rfl dd (.slice V k cv) k (kq l) rfl (hown.alloc _) ⟨wr.heap.size,0,none⟩ 1 1 [.int .i64 (mm%10)] rfl rfl (cell_one_new _ _ _) (by simp[Value.oneCell']) (by unfold maxLen;omega) oo (by have:=hB.size;simp;omega) ?_;intro v' w3 hown3 hgrow3 _;obtain⟨V3,c3,rfl⟩:=zh hown3);go_roundw
   case rel=>exact⟨mm/10,k+1,V3,c3,l++[(mm%10).toNat],rfl,rfl,by rw[<- km _ _ oo];exact hown3,(hB.alloc hB.size _).grown hgrow3 (by have:=hB.size;simp;omega) (jv hown),by rw[hD.out,hQ.out];exact hst,oo,oo,oo⟩
   case measure=>simp only[RowKit.intOf];omega
theorem jb5(n:Int)(hj:jo n)(hn:n<0)(w:World):Calls prog 106 #[.int .i64 n] w (kaL n w):=by
 obtain⟨i0,hi,hz0,hz1,hz2⟩:=info_parts kE;have b0:=hj.1;have b1:=hj.2;have hs:Hid (sv true n.natAbs=n):=hid (by simp[sv];omega);go_enter func106,ntmps106;go_wp2;go_loopw[3,4] (fun v mv wr=>∃(mm:Int) (k:Nat) (V:En) (cv:Nat) (l:List Nat),v=.slice V k cv/\mv=.int .i64 mm/\wr.ownsRow w.heap.size 3 1 (.slice V k cv) k (kq l)/\Aa w wr/\Hid (FInv n.natAbs mm.natAbs l)/\mm<=0 /\ -9223372036854775808<=mm/\mm<=9223372036854775807)
  (fun _ mv _=>(RowKit.intOf mv).natAbs)
 case atStart=>exact⟨n,0,none,0,[],rfl,rfl,World.ownsRow_nil _ _ _ _,Au _ _,FInv.start _,oo,oo,oo⟩
 case round =>
  obtain⟨mm,k,V,cv,l,rfl,rfl,hown,hB,hI,hm0,hm1,hm2⟩:=hrel;have hlen:=hI.out.len oo;have hkl:k=l.length:=by have:=hown.1;simpa[kq]using this.symm
  have hk:k<=19:=oo
  clear hlen hkl;by_cases hz:mm=0
  ·subst hz;have hd:=hid hI.out.done0;clear hI;have hnum:NumV wr V k l:=BJ hown;have hcap:=qS hown;have hisd:IsD wr V k cv n.natAbs:=⟨l,hnum,hd.out.1,hd.out.2,hcap⟩
   go_wp2_with (go_at_call 153;go_must ((with_reducible refine(jaf true hs _ hisd oo).mono ?_);rintro e w2⟨rfl,hb2⟩));go_ret;exact⟨rfl,hB.trans (hb2.mono hB.size)⟩
  ·have hne:(mm==0)=false:=by simpa using hz
   have hst:=hid (hI.out.step oo);have hmp:mm<0:=oo
   have ht0:(mm.tmod 10).natAbs=mm.natAbs%10:=by rw[Int.natAbs_tmod];rfl
   have hu0:(mm.tdiv 10).natAbs=mm.natAbs/10:=by rw[Int.natAbs_tdiv];rfl
   obtain⟨hts,hus⟩:=jde mm oo;obtain⟨t,et⟩:∃ t,mm.tmod 10=t:=⟨_,rfl⟩
   obtain⟨u,eu⟩:∃ u,mm.tdiv 10=u:=⟨_,rfl⟩
   rw[et]at ht0 hts;rw[eu]at hu0 hus;have t1 : -10<t:=oo
   have u1 : -9223372036854775808<=u:=oo
   have HT:=hid ht0;have HU:=hid hu0;have hlt:u.natAbs<mm.natAbs:=oo
   clear hz ht0 hu0;by_cases htn:t<0
   ·go_wp2_with (at_builtin;refine wpList_append_own _ rfl (.tmp 19) (.tmp 21) 146 rfl w.heap.size 3 i0 (.int .i64 0) 1 8 underlying146 hi hz0 hz1 hz2 rfl dd (.slice V k cv) k (kq l) rfl (hown.alloc _) ⟨wr.heap.size,0,none⟩ 1 1 [.int .i64 (-t)] rfl rfl (cell_one_new _ _ _) (by simp[Value.oneCell']) (by unfold maxLen;omega) oo (by have:=hB.size;simp;omega) ?_;intro v' w3 hown3 hgrow3 _;obtain⟨V3,c3,rfl⟩:=zh hown3);go_roundw
    case rel=>exact⟨u,k+1,V3,c3,l++[(-t).toNat],rfl,rfl,by rw[<- km _ _ oo];exact hown3,(hB.alloc hB.size _).grown hgrow3 (by have:=hB.size;simp;omega) (jv hown),by rw[show(-t).toNat=mm.natAbs%10 by have:=HT.out;omega,HU.out];exact hst,oo,oo,oo⟩
    case measure=>simp only[RowKit.intOf];exact hlt
   ·obtain rfl:t=0:=oo
    go_wp2_with (at_builtin;refine wpList_append_own _ rfl (.tmp 19) (.tmp 21) 146 rfl w.heap.size 3 i0 (.int .i64 0) 1 8 underlying146 hi hz0 hz1 hz2 rfl dd (.slice V k cv) k (kq l) rfl (hown.alloc _) ⟨wr.heap.size,0,none⟩ 1 1 [.int .i64 (0)] rfl rfl (cell_one_new _ _ _) (by simp[Value.oneCell']) (by unfold maxLen;omega) oo (by have:=hB.size;simp;omega) ?_;intro v' w3 hown3 hgrow3 _;obtain⟨V3,c3,rfl⟩:=zh hown3);go_roundw
    case rel=>exact⟨u,k+1,V3,c3,l++[(0:Int).toNat],rfl,rfl,by rw[<- km _ _ oo];exact hown3,(hB.alloc hB.size _).grown hgrow3 (by have:=hB.size;simp;omega) (jv hown),by rw[show(0:Int).toNat=mm.natAbs%10 by have:=HT.out;omega,HU.out];exact hst,oo,oo,oo⟩
    case measure=>simp only[RowKit.intOf];exact hlt
theorem qa9{n:Int}(h:Hid (jo n))(w:World):Calls prog 106 #[.int .i64 n] w (kaL n w):=by
 by_cases hn:n<0
 ·exact jb5 n h.out hn w
 ·exact jcp n h.out oo w
theorem yaX{a:ByteArray}{z:Int}(h:Is a z)(hf:Fits z)(w:World):Calls prog 91 #[.string a] w (qa true w) :=
 (kh h hf w).mono fun _ _ h=>⟨h.1,by rw[h.2];exact Au _ _⟩
theorem zH(q:Rat)(h:QDig 200 q)(w:World):Calls prog 37 #[Q q] w (qa true w):=by
 have hB:=Ab w;have hn:=qq q.num;have hd:=qq (q.den:Int);have fn:Fits q.num:=h.1;have fd:Fits (q.den:Int):=h.2;have i0:Is ⟨#[48]⟩ 0:=yE;have f0:Fits 0:=qy;have C:Hid (kp (q.den:Int) 0=1):=hid (qaq (den_pos q));have G:Hid (((q.num.natAbs.gcd (q.den:Int).natAbs:Nat):Int)=1):=hid (by rw[va8];rfl);have M1:=fun W=>yaX hn fn W
 have M2:=fun W=>yaX hd fd W
 have M3:=fun W=>kaX hd i0 C fd f0 W
 have M4:=fun W=>vcF hn hd G fn fd W
 unfold vX at M4;rw[vcw]at M4;clear hn hd fn fd i0 f0 C G h;unfold Q;generalize S q.num=sn at *;generalize S (q.den:Int)=sd at *;go_enter func37,ntmps37;go_wp2_with fail;have sB:=hB.size;refine za (fun X=>Aa w X/\Row X w.heap.size (.cells #[.string sn,.string sd] 23)) ⟨yJ,C2⟩ ?_;clear hB sB;rintro V1⟨hB,rq⟩;have sq:=Av rq;refine(M1 _).mono ?_;rintro e W2⟨rfl,h1⟩;clear sq;replace hB:=Em hB h1;replace rq:=Ae rq h1;clear h1;have sq:=Av rq;go_wp2_with fail;refine(M2 _).mono ?_;rintro e W3⟨rfl,h1⟩;clear sq;replace hB:=Em hB h1;replace rq:=Ae rq h1;clear h1;have sq:=Av rq;go_wp2_with fail;refine(M3 _).mono ?_;rintro e W4⟨rfl,h1⟩;clear sq;replace hB:=Em hB h1;replace rq:=Ae rq h1;clear h1;have sq:=Av rq;go_wp2_with fail;refine(M4 _).mono ?_;rintro e W5⟨rfl,h1⟩;clear sq;replace hB:=Em hB h1;replace rq:=Ae rq h1;clear h1;have sq:=Av rq;go_wp2;go_ret;exact⟨rfl,hB⟩
theorem vbw{a b:ByteArray}{n d:Int}(ha:Is a n)(hb:Is b d)(hn:Fits n)(hd:Fits d)(hd0:0<d)(w:World):Calls prog 105 #[.string a,.string b] w (QOk (Rat.divInt n d) w):=by
 have hB:=Ab w;have i0:Is ⟨#[48]⟩ 0:=yE;have f0:Fits 0:=qy;have nz:(b.toList==[48])=false:=by rw[hb.eq];exact kaA oo
 have C:Hid (kp d 0=1):=hid (qaq hd0);obtain⟨g,hg⟩:∃ g:Int,g=((n.natAbs.gcd d.natAbs:Nat):Int):=⟨_,rfl⟩
 have G:=hid hg.symm;have fg:Fits g:=by rw[hg];exact vak hn hd
 have g0:Hid (g≠0):=hid (by rw[hg];exact jaT oo);have ig:=qq g;obtain⟨r1,r2⟩:=qF (n:=n) hd0;rw[<- hg]at r1 r2;have R1:=hid r1.symm;have R2:=hid r2.symm;clear r1 r2 hg hd0;generalize Rat.divInt n d=q at *;have M1:=fun W=>yaX ha hn W
 have M2:=fun W=>yaX hb hd W
 have M3:=fun W=>kaX hb i0 C hd f0 W
 have M4:=fun W=>vcF ha hb G hn hd W
 have M5:=fun W=>qcp ha ig R1 (hid rfl) hn fg g0 W
 have M6:=fun W=>qcp hb ig R2 (hid rfl) hd fg g0 W
 unfold yaK at M5 M6;unfold vX at M4;clear i0 f0 C G fg g0 ig R1 R2 ha hb hn hd;unfold QOk Q;go_enter func105,ntmps105;go_wp2_with fail;have sB:=hB.size;refine za (fun X=>Aa w X/\Row X w.heap.size oR0) ⟨yJ,C2⟩ ?_;clear hB sB;rintro V1⟨hB,ro⟩;have so:=Av ro;refine(M1 _).mono ?_;rintro e W2⟨rfl,h1⟩;clear so;replace hB:=Em hB h1;replace ro:=Ae ro h1;clear h1;have so:=Av ro;go_wp2_with fail;refine(M2 _).mono ?_;rintro e W3⟨rfl,h1⟩;clear so;replace hB:=Em hB h1;replace ro:=Ae ro h1;clear h1;have so:=Av ro;go_wp2_with fail;refine(M3 _).mono ?_;rintro e W4⟨rfl,h1⟩;clear so;replace hB:=Em hB h1;replace ro:=Ae ro h1;clear h1;have so:=Av ro;go_wp2_with fail;refine(M4 _).mono ?_;rintro e W5⟨rfl,h1⟩;clear so;replace hB:=Em hB h1;replace ro:=Ae ro h1;clear h1;have so:=Av ro;go_wp2_with fail;refine(M5 _).mono ?_;rintro e W6⟨rfl,h1⟩;clear so;replace hB:=Em hB h1;replace ro:=Ae ro h1;clear h1;have so:=Av ro;go_wp2_with fail;refine(M6 _).mono ?_;rintro e W7⟨rfl,h1⟩;clear so;replace hB:=Em hB h1;replace ro:=Ae ro h1;clear h1;have so:=Av ro;go_wp2;have sB:=hB.size;refine vc (fun X=>Aa w X/\Row X w.heap.size (oR q)) ⟨yJ,zaP⟩ ?_;clear ro so hB sB;rintro V8⟨hB,ro⟩
 have so:=Av ro;refine bodyPost_ret (v:=.tuple #[Ac q,.int .i64 0]) ?res rfl ⟨rfl,hB⟩
 case res=>simp[results,results105,go_sem,so]
theorem jcK{n d:Int}(hn:jo n)(hd:jo d)(hd0:0<d)(w:World):Calls prog 52 #[.int .i64 n,.int .i64 d] w (QOk (Rat.divInt n d) w):=by
 have hB:=Ab w;have M1:=fun W=>qa9 (hid hn) W
 have M2:=fun W=>qa9 (hid hd) W
 have M3:=fun W=>vbw (qq n) (qq d) ((zbS hn).fits oo) ((zbS hd).fits oo) hd0 W
 unfold kaL at M1 M2;unfold QOk at *;generalize Rat.divInt n d=q at *;clear hn hd hd0;unfold Q at *;go_enter func52,ntmps52;go_wp2_with fail;have sB:=hB.size;refine za (fun X=>Aa w X/\Row X w.heap.size oR0) ⟨yJ,C2⟩ ?_;clear hB sB;rintro V1⟨hB,ro⟩;have so:=Av ro;refine(M1 _).mono ?_;rintro e W2⟨rfl,h1⟩;clear so;replace hB:=Em hB h1;replace ro:=Ae ro h1;clear h1;have so:=Av ro;go_wp2_with fail;refine(M2 _).mono ?_;rintro e W3⟨rfl,h1⟩;clear so;replace hB:=Em hB h1;replace ro:=Ae ro h1;clear h1;have so:=Av ro;go_wp2_with fail;refine(M3 _).mono ?_;rintro e W4⟨rfl,h1⟩;clear so;replace hB:=Em hB h1;replace ro:=Ae ro h1;clear h1;have so:=Av ro;go_wp2;have sB:=hB.size;refine vc (fun X=>Aa w X/\Row X w.heap.size (oR q)) ⟨yJ,zaP⟩ ?_;clear ro so hB sB;rintro V5⟨hB,ro⟩;have so:=Av ro;refine bodyPost_ret (v:=.tuple #[Ac q,.int .i64 0]) ?res rfl ⟨rfl,hB⟩
 case res=>simp[results,results52,go_sem,so]
end Go.Proofs.YtdiecekagiledaaGreatDoor
