/-
 The reference implementation: its exported functions on sums, products and order. The reference implementation: quotients and common divisors. The reference implementation: numbers of the machine.
-/
import Derived.Test.YtdikaoahgleffaaGreatDoorWLaw1
import Derived.Test.YtdikaoahgleffaaGreatDoorWRefQ
set_option maxRecDepth 100000
set_option maxHeartbeats 8000000
namespace Go.Proofs.YtdikaoahgleffaaGreatDoor
open Go Go.RowKit Go.Lib Go.Shelf
theorem IsD.bound {w:World} {A:Option Addr} {n c x:Nat} (h:IsD w A n c x):x<10 ^ n:=by
 obtain ⟨l,h1,h2,rfl,_⟩:=h;rw [h1.len];exact val10_lt h2.1
theorem IsD.len400 {w W:World} {A B C:Option Addr} {n c m d k e x y:Nat} (h:IsD W C k e (x * y)) (hn:n≤200) (hm:m≤200) (hx:IsD w A n c x) (hy:IsD w B m d y) (_hb:Below w.heap.size w W):k≤400:=by
 have h1:=hx.bound;have h2:=hy.bound;have h3:x * y<10 ^ (n+m):=by rw [Nat.pow_add];exact Nat.mul_lt_mul'' h1 h2
 have:=h.le h3;omega
theorem rvalid_is {a:ByteArray} {z:Int} (h:Is a z) (hf:Fits z) (w:World):Calls Tryz.prog 140 #[.string a] w (RBool true w):=by
 have:=rvalid_any a w (h.str hf)
 rwa [h.valid hf] at this
def TextD (z:Int) (w:World) (e:Ending) (w':World):Prop:=e = .returned (.tuple #[.string (S z),.bool (decide (Fits z))])∧Below w.heap.size w w'
theorem rtextD (neg:Bool) {A:Option Addr} {n c U:Nat} {z:Int} (hz:Hid (sv neg U=z)) (w:World) (h:IsD w A n c U) (hn:n≤1000):Calls Tryz.prog 145 #[.bool neg,.slice A n c] w (TextD z w):=by
 obtain ⟨l,h1,h2,h3,h4⟩:=h;refine (rtext_any neg A n c l w h1 (by omega) h2.1).mono ?_;rintro e w' ⟨rfl,hb⟩;refine ⟨?_,hb⟩;have e1:(⟨(tx neg l).toArray⟩:ByteArray)=S z:=by
  rw [tx_itoa neg h2,h3,← hz.out];unfold S sv
  cases neg <;> rfl
 have e2:decide ((n:Int)≤200)=decide (Fits z):=by
  have hza:z.natAbs=U:=by rw [← hz.out];unfold sv;cases neg <;> simp
  have h5:(decDigits U).length≤200 ↔ Fits z:=by rw [← fits_iff,hza]
  have h6:n=l.length:=h1.len;by_cases hl:l=[]
  ·subst hl;have h7:U=0:=by rw [← h3];rfl
   have h8:n=0:=h6;have h9:Fits z:=h5.1 (by rw [h7,decDigits_zero];decide);rw [h8];simp [h9]
  ·have h7:l.length=(decDigits U).length:=by rw [← h3,← txt10_norm h2 hl];simp [txt10]
   have h8:(n:Int)≤200 ↔ Fits z:=by rw [← h5,← h7,← h6];omega
   simp [h8]
 rw [e1,e2]
def ChkOk (z:Int) (w:World) (e:Ending) (w':World):Prop:=e = .returned (.tuple #[.string ⟨(tText z).toArray⟩,.int .i64 (tErr z)])∧Below w.heap.size w w'
theorem rchecked_any (neg:Bool) {A:Option Addr} {n c U:Nat} {z:Int} (hz:Hid (sv neg U=z)) (w:World) (h:IsD w A n c U) (hn:n≤1000):Calls Tryz.prog 180 #[.bool neg,.slice A n c] w (ChkOk z w):=by
 by_cases hf:Fits z
 ·have ht:(⟨(tText z).toArray⟩:ByteArray)=S z:=tText_fit hf;have he:=tErr_fit hf;have hd:decide (Fits z)=true:=by simpa using hf
  unfold ChkOk;rw [ht,he];clear ht he;go_enter Tryz.func180, Tryz.ntmps180;go_wp2_with fail;refine (rtextD neg hz _ h hn).mono ?_;rintro e W ⟨rfl,hb⟩;rw [hd];clear hd;go_wp2;go_ret2;exact ⟨rfl,hb⟩
 ·have ht:(⟨(tText z).toArray⟩:ByteArray)=⟨#[]⟩:=by rw [tText_big hf]
  have he:=tErr_big hf;have hd:decide (Fits z)=false:=by simpa using hf
  unfold ChkOk;rw [ht,he];clear ht he;go_enter Tryz.func180, Tryz.ntmps180;go_wp2_with fail;refine (rtextD neg hz _ h hn).mono ?_;rintro e W ⟨rfl,hb⟩;rw [hd];clear hd;go_wp2;go_ret2;exact ⟨rfl,hb⟩
theorem pow401:Hid (∀ X Y:Nat,X<10 ^ 200→Y<10 ^ 200→X+Y<10 ^ 201):=Lib.hid (fun X Y h1 h2=>by
 rw [show (201:Nat)=200+1 from rfl,Nat.pow_succ];generalize (10:Nat) ^ 200=T at *;omega)
theorem rsum_any (nx ny:Bool) (A B:Option Addr) (n c m d X Y:Nat) (z:Int) (w:World) (hs:Hid (sv nx X+sv ny Y=z)) (hx:IsD w A n c X) (hy:IsD w B m d Y) (hX:Hid (X<10 ^ 200)) (hY:Hid (Y<10 ^ 200)) :
  Calls Tryz.prog 178 #[.bool nx,.slice A n c,.bool ny,.slice B m d] w (ChkOk z w):=by
 have hn:=hx.le hX.out;have hm:=hy.le hY.out
 cases nx <;> cases ny
 ·have hz:Hid (sv false (X+Y)=z):=Lib.hid (by rw [← hs.out];simp [sv];try omega);clear hs;go_enter Tryz.func178, Tryz.ntmps178;go_wp2_with fail;refine (rplus_any A B n c m d X Y _ hx hy (by omega) (by omega)).mono ?_;rintro e W ⟨A1,n1,c1,rfl,h1,hb,_⟩;have hn1:=h1.le (K:=201) (Nat.lt_of_le_of_lt (by omega) (pow401.out X Y hX.out hY.out));go_wp2_with fail;refine (rchecked_any false hz _ h1 (by omega)).mono ?_;rintro e W2 ⟨rfl,hb2⟩;go_wp2;refine bodyPost_ret (v := .tuple #[.string ⟨(tText z).toArray⟩,.int .i64 (tErr z)]) ?res rfl ⟨rfl,hb.trans (hb2.mono hb.size)⟩
  case res=>simp [results,Tryz.f178, go_sem]
 ·by_cases hxy:Y≤X
  ·have hz:Hid (sv false (X - Y)=z):=Lib.hid (by rw [← hs.out];simp [sv];try omega);have hcz:0≤cmpZ (X:Int) (Y:Int):=by unfold cmpZ;split <;> (try split) <;> omega
   have HXY:=Lib.hid hxy;clear hs hxy;go_enter Tryz.func178, Tryz.ntmps178;go_wp2_with fail;refine (rorder_any A B n c m d X Y _ hx hy (by omega) (by omega)).mono ?_;rintro e W0 ⟨rfl,hb0⟩;go_wp2_with fail;refine (rminus_any A B n c m d X Y _ (hx.below hb0) (hy.below hb0) (by omega) HXY.out).mono ?_;rintro e W ⟨A1,n1,c1,rfl,h1,hb1,_⟩;have hb:=hb0.trans (hb1.mono hb0.size);clear hb0 hb1;have hn1:=h1.le (K:=201) (Nat.lt_of_le_of_lt (by omega) (pow401.out X Y hX.out hY.out));go_wp2_with fail;refine (rchecked_any false hz _ h1 (by omega)).mono ?_;rintro e W2 ⟨rfl,hb2⟩;go_wp2;refine bodyPost_ret (v := .tuple #[.string ⟨(tText z).toArray⟩,.int .i64 (tErr z)]) ?res rfl ⟨rfl,hb.trans (hb2.mono hb.size)⟩
   case res=>simp [results,Tryz.f178, go_sem]
  ·have hz:Hid (sv true (Y - X)=z):=Lib.hid (by rw [← hs.out];simp [sv];try omega);have hcz:cmpZ (X:Int) (Y:Int)<0:=by unfold cmpZ;split <;> (try split) <;> omega
   have HXY:=Lib.hid hxy;clear hs hxy;go_enter Tryz.func178, Tryz.ntmps178;go_wp2_with fail;refine (rorder_any A B n c m d X Y _ hx hy (by omega) (by omega)).mono ?_;rintro e W0 ⟨rfl,hb0⟩;go_wp2_with fail;refine (rminus_any B A m d n c Y X _ (hy.below hb0) (hx.below hb0) (by omega) (by have:=HXY.out;omega)).mono ?_;rintro e W ⟨A1,n1,c1,rfl,h1,hb1,_⟩;have hb:=hb0.trans (hb1.mono hb0.size);clear hb0 hb1;have hn1:=h1.le (K:=201) (Nat.lt_of_le_of_lt (by omega) (pow401.out X Y hX.out hY.out));go_wp2_with fail;refine (rchecked_any true hz _ h1 (by omega)).mono ?_;rintro e W2 ⟨rfl,hb2⟩;go_wp2;refine bodyPost_ret (v := .tuple #[.string ⟨(tText z).toArray⟩,.int .i64 (tErr z)]) ?res rfl ⟨rfl,hb.trans (hb2.mono hb.size)⟩
   case res=>simp [results,Tryz.f178, go_sem]
 ·by_cases hxy:Y≤X
  ·have hz:Hid (sv true (X - Y)=z):=Lib.hid (by rw [← hs.out];simp [sv];try omega);have hcz:0≤cmpZ (X:Int) (Y:Int):=by unfold cmpZ;split <;> (try split) <;> omega
   have HXY:=Lib.hid hxy;clear hs hxy;go_enter Tryz.func178, Tryz.ntmps178;go_wp2_with fail;refine (rorder_any A B n c m d X Y _ hx hy (by omega) (by omega)).mono ?_;rintro e W0 ⟨rfl,hb0⟩;go_wp2_with fail;refine (rminus_any A B n c m d X Y _ (hx.below hb0) (hy.below hb0) (by omega) HXY.out).mono ?_;rintro e W ⟨A1,n1,c1,rfl,h1,hb1,_⟩;have hb:=hb0.trans (hb1.mono hb0.size);clear hb0 hb1;have hn1:=h1.le (K:=201) (Nat.lt_of_le_of_lt (by omega) (pow401.out X Y hX.out hY.out));go_wp2_with fail;refine (rchecked_any true hz _ h1 (by omega)).mono ?_;rintro e W2 ⟨rfl,hb2⟩;go_wp2;refine bodyPost_ret (v := .tuple #[.string ⟨(tText z).toArray⟩,.int .i64 (tErr z)]) ?res rfl ⟨rfl,hb.trans (hb2.mono hb.size)⟩
   case res=>simp [results,Tryz.f178, go_sem]
  ·have hz:Hid (sv false (Y - X)=z):=Lib.hid (by rw [← hs.out];simp [sv];try omega);have hcz:cmpZ (X:Int) (Y:Int)<0:=by unfold cmpZ;split <;> (try split) <;> omega
   have HXY:=Lib.hid hxy;clear hs hxy;go_enter Tryz.func178, Tryz.ntmps178;go_wp2_with fail;refine (rorder_any A B n c m d X Y _ hx hy (by omega) (by omega)).mono ?_;rintro e W0 ⟨rfl,hb0⟩;go_wp2_with fail;refine (rminus_any B A m d n c Y X _ (hy.below hb0) (hx.below hb0) (by omega) (by have:=HXY.out;omega)).mono ?_;rintro e W ⟨A1,n1,c1,rfl,h1,hb1,_⟩;have hb:=hb0.trans (hb1.mono hb0.size);clear hb0 hb1;have hn1:=h1.le (K:=201) (Nat.lt_of_le_of_lt (by omega) (pow401.out X Y hX.out hY.out));go_wp2_with fail;refine (rchecked_any false hz _ h1 (by omega)).mono ?_;rintro e W2 ⟨rfl,hb2⟩;go_wp2;refine bodyPost_ret (v := .tuple #[.string ⟨(tText z).toArray⟩,.int .i64 (tErr z)]) ?res rfl ⟨rfl,hb.trans (hb2.mono hb.size)⟩
   case res=>simp [results,Tryz.f178, go_sem]
 ·have hz:Hid (sv true (X+Y)=z):=Lib.hid (by rw [← hs.out];simp [sv];try omega);clear hs;go_enter Tryz.func178, Tryz.ntmps178;go_wp2_with fail;refine (rplus_any A B n c m d X Y _ hx hy (by omega) (by omega)).mono ?_;rintro e W ⟨A1,n1,c1,rfl,h1,hb,_⟩;have hn1:=h1.le (K:=201) (Nat.lt_of_le_of_lt (by omega) (pow401.out X Y hX.out hY.out));go_wp2_with fail;refine (rchecked_any true hz _ h1 (by omega)).mono ?_;rintro e W2 ⟨rfl,hb2⟩;go_wp2;refine bodyPost_ret (v := .tuple #[.string ⟨(tText z).toArray⟩,.int .i64 (tErr z)]) ?res rfl ⟨rfl,hb.trans (hb2.mono hb.size)⟩
  case res=>simp [results,Tryz.f178, go_sem]
theorem rcmpS {a b:ByteArray} {x y c:Int} (ha:Is a x) (hb:Is b y) (hc:Hid (cmpZ x y=c)) (hx:Fits x) (hy:Fits y) (w:World) :
  Calls Tryz.prog 141 #[.string a,.string b] w (CmpOk c w):=by
 by_cases h1:x<0 <;> by_cases h2:y<0
 ·have hx0:decide (x<0)=true:=by simp;omega
  have hy0:decide (y<0)=true:=by simp;omega
  have hcc:cmpZ (y.natAbs:Int) (x.natAbs:Int)=c:=by rw [← hc.out];unfold cmpZ;split <;> split <;> first | rfl | omega | (split <;> first | rfl | omega | (split <;> first | rfl | omega))
  have HC:=Lib.hid hcc;clear hcc h1 h2;go_enter Tryz.func141, Tryz.ntmps141;go_wp2_with fail;refine (rvalid_is ha hx _).mono ?_;rintro e W ⟨rfl,rfl⟩;go_wp2_with fail;refine (rvalid_is hb hy _).mono ?_;rintro e W ⟨rfl,rfl⟩;go_wp2_with fail;refine (rdigits_any ha hx _).mono ?_;rintro e W ⟨A1,n1,c1,rfl,D1,hb1⟩;rw [hx0];go_wp2_with fail;refine (rdigits_any hb hy _).mono ?_;rintro e W ⟨A2,n2,c2,rfl,D2,hb2⟩;rw [hy0];have hB:=hb1.trans (hb2.mono hb1.size);have D1':=D1.below hb2;have L1:=D1'.le hx;have L2:=D2.le hy;clear D1 hb1 hb2 hx0 hy0;go_wp2_with fail;refine (rorder_any A2 A1 n2 c2 n1 c1 _ _ _ D2 D1' (by omega) (by omega)).mono ?_;rintro e W9 ⟨rfl,hb9⟩;rw [HC.out];go_wp2;go_ret;exact ⟨rfl,hB.trans (hb9.mono hB.size)⟩
 ·have hx0:decide (x<0)=true:=by simp;omega
  have hy0:decide (y<0)=false:=by simp;omega
  obtain rfl:c = -1:=by rw [← hc.out];unfold cmpZ;rw [if_pos (by omega)]
  clear h1 h2;go_enter Tryz.func141, Tryz.ntmps141;go_wp2_with fail;refine (rvalid_is ha hx _).mono ?_;rintro e W ⟨rfl,rfl⟩;go_wp2_with fail;refine (rvalid_is hb hy _).mono ?_;rintro e W ⟨rfl,rfl⟩;go_wp2_with fail;refine (rdigits_any ha hx _).mono ?_;rintro e W ⟨A1,n1,c1,rfl,D1,hb1⟩;rw [hx0];go_wp2_with fail;refine (rdigits_any hb hy _).mono ?_;rintro e W ⟨A2,n2,c2,rfl,D2,hb2⟩;rw [hy0];have hB:=hb1.trans (hb2.mono hb1.size);have D1':=D1.below hb2;have L1:=D1'.le hx;have L2:=D2.le hy;clear D1 hb1 hb2 hx0 hy0;go_wp2;go_ret;exact ⟨rfl,hB⟩
 ·have hx0:decide (x<0)=false:=by simp;omega
  have hy0:decide (y<0)=true:=by simp;omega
  obtain rfl:c=1:=by rw [← hc.out];unfold cmpZ;rw [if_neg (by omega),if_pos (by omega)]
  clear h1 h2;go_enter Tryz.func141, Tryz.ntmps141;go_wp2_with fail;refine (rvalid_is ha hx _).mono ?_;rintro e W ⟨rfl,rfl⟩;go_wp2_with fail;refine (rvalid_is hb hy _).mono ?_;rintro e W ⟨rfl,rfl⟩;go_wp2_with fail;refine (rdigits_any ha hx _).mono ?_;rintro e W ⟨A1,n1,c1,rfl,D1,hb1⟩;rw [hx0];go_wp2_with fail;refine (rdigits_any hb hy _).mono ?_;rintro e W ⟨A2,n2,c2,rfl,D2,hb2⟩;rw [hy0];have hB:=hb1.trans (hb2.mono hb1.size);have D1':=D1.below hb2;have L1:=D1'.le hx;have L2:=D2.le hy;clear D1 hb1 hb2 hx0 hy0;go_wp2;go_ret;exact ⟨rfl,hB⟩
 ·have hx0:decide (x<0)=false:=by simp;omega
  have hy0:decide (y<0)=false:=by simp;omega
  have hcc:cmpZ (x.natAbs:Int) (y.natAbs:Int)=c:=by rw [← hc.out,show (x.natAbs:Int)=x by omega,show (y.natAbs:Int)=y by omega]
  have HC:=Lib.hid hcc;clear hcc h1 h2;go_enter Tryz.func141, Tryz.ntmps141;go_wp2_with fail;refine (rvalid_is ha hx _).mono ?_;rintro e W ⟨rfl,rfl⟩;go_wp2_with fail;refine (rvalid_is hb hy _).mono ?_;rintro e W ⟨rfl,rfl⟩;go_wp2_with fail;refine (rdigits_any ha hx _).mono ?_;rintro e W ⟨A1,n1,c1,rfl,D1,hb1⟩;rw [hx0];go_wp2_with fail;refine (rdigits_any hb hy _).mono ?_;rintro e W ⟨A2,n2,c2,rfl,D2,hb2⟩;rw [hy0];have hB:=hb1.trans (hb2.mono hb1.size);have D1':=D1.below hb2;have L1:=D1'.le hx;have L2:=D2.le hy;clear D1 hb1 hb2 hx0 hy0;go_wp2_with fail;refine (rorder_any A1 A2 n1 c1 n2 c2 _ _ _ D1' D2 (by omega) (by omega)).mono ?_;rintro e W9 ⟨rfl,hb9⟩;rw [HC.out];go_wp2;go_ret;exact ⟨rfl,hB.trans (hb9.mono hB.size)⟩
theorem radd_any {a b:ByteArray} {x y z:Int} (ha:Is a x) (hb:Is b y) (hz:Hid (x+y=z)) (hx:Fits x) (hy:Fits y) (w:World) :
  Calls Tryz.prog 152 #[.string a,.string b] w (ChkOk z w):=by
 have sx:=sv_abs x;have sy:=sv_abs y;have hX:Hid (x.natAbs<10 ^ 200):=hx;have hY:Hid (y.natAbs<10 ^ 200):=hy;have hs:Hid (sv (decide (x<0)) x.natAbs+sv (decide (y<0)) y.natAbs=z):=Lib.hid (by rw [sx,sy];exact hz.out);clear sx sy;go_enter Tryz.func152, Tryz.ntmps152;go_wp2_with fail;refine (rvalid_is ha hx _).mono ?_;rintro e W ⟨rfl,rfl⟩;go_wp2_with fail;refine (rvalid_is hb hy _).mono ?_;rintro e W ⟨rfl,rfl⟩;go_wp2_with fail;refine (rdigits_any ha hx _).mono ?_;rintro e W ⟨A1,n1,c1,rfl,D1,hb1⟩;go_wp2_with fail;refine (rdigits_any hb hy _).mono ?_;rintro e W ⟨A2,n2,c2,rfl,D2,hb2⟩;have hB:=hb1.trans (hb2.mono hb1.size);have D1':=D1.below hb2;clear D1 hb1 hb2;generalize decide (x<0)=dx at *;generalize decide (y<0)=dy at *;go_wp2_with fail;refine (rsum_any dx dy A1 A2 n1 c1 n2 c2 _ _ z _ hs D1' D2 hX hY).mono ?_;rintro e W9 ⟨rfl,hb9⟩;go_wp2;refine bodyPost_ret (v := .tuple #[.string ⟨(tText z).toArray⟩,.int .i64 (tErr z)]) ?res rfl ⟨rfl,hB.trans (hb9.mono hB.size)⟩
 case res=>simp [results,Tryz.f152, go_sem]
theorem rsub_any {a b:ByteArray} {x y z:Int} (ha:Is a x) (hb:Is b y) (hz:Hid (x - y=z)) (hx:Fits x) (hy:Fits y) (w:World) :
  Calls Tryz.prog 142 #[.string a,.string b] w (ChkOk z w):=by
 have sx:=sv_abs x;have sy:=sv_abs y;have hX:Hid (x.natAbs<10 ^ 200):=hx;have hY:Hid (y.natAbs<10 ^ 200):=hy;have sy':sv (!decide (y<0)) y.natAbs = -y:=by
  generalize decide (y<0)=d at *
  cases d <;> simp [sv] at * <;> omega
 have hs:Hid (sv (decide (x<0)) x.natAbs+sv (!decide (y<0)) y.natAbs=z):=Lib.hid (by rw [sx,sy',← Int.sub_eq_add_neg];exact hz.out);clear sx sy sy';go_enter Tryz.func142, Tryz.ntmps142;go_wp2_with fail;refine (rvalid_is ha hx _).mono ?_;rintro e W ⟨rfl,rfl⟩;go_wp2_with fail;refine (rvalid_is hb hy _).mono ?_;rintro e W ⟨rfl,rfl⟩;go_wp2_with fail;refine (rdigits_any ha hx _).mono ?_;rintro e W ⟨A1,n1,c1,rfl,D1,hb1⟩;go_wp2_with fail;refine (rdigits_any hb hy _).mono ?_;rintro e W ⟨A2,n2,c2,rfl,D2,hb2⟩;have hB:=hb1.trans (hb2.mono hb1.size);have D1':=D1.below hb2;clear D1 hb1 hb2;generalize decide (x<0)=dx at *;generalize decide (y<0)=dy at *;go_wp2_with fail;refine (rsum_any dx (!dy) A1 A2 n1 c1 n2 c2 _ _ z _ hs D1' D2 hX hY).mono ?_;rintro e W9 ⟨rfl,hb9⟩;go_wp2;refine bodyPost_ret (v := .tuple #[.string ⟨(tText z).toArray⟩,.int .i64 (tErr z)]) ?res rfl ⟨rfl,hB.trans (hb9.mono hB.size)⟩
 case res=>simp [results,Tryz.f142, go_sem]
theorem rmul_any {a b:ByteArray} {x y z:Int} (ha:Is a x) (hb:Is b y) (hz:Hid (x * y=z)) (hx:Fits x) (hy:Fits y) (w:World) :
  Calls Tryz.prog 151 #[.string a,.string b] w (ChkOk z w):=by
 have sx:=sv_abs x;have sy:=sv_abs y;have hX:Hid (x.natAbs<10 ^ 200):=hx;have hY:Hid (y.natAbs<10 ^ 200):=hy;have hs:Hid (sv (decide (x<0) != decide (y<0)) (x.natAbs * y.natAbs)=z):=Lib.hid (by rw [sv_mul];exact hz.out);clear sx sy;go_enter Tryz.func151, Tryz.ntmps151;go_wp2_with fail;refine (rvalid_is ha hx _).mono ?_;rintro e W ⟨rfl,rfl⟩;go_wp2_with fail;refine (rvalid_is hb hy _).mono ?_;rintro e W ⟨rfl,rfl⟩;go_wp2_with fail;refine (rdigits_any ha hx _).mono ?_;rintro e W ⟨A1,n1,c1,rfl,D1,hb1⟩;go_wp2_with fail;refine (rdigits_any hb hy _).mono ?_;rintro e W ⟨A2,n2,c2,rfl,D2,hb2⟩;have hB:=hb1.trans (hb2.mono hb1.size);have D1':=D1.below hb2;clear D1 hb1 hb2;have L1:=D1'.le hX.out;have L2:=D2.le hY.out;generalize decide (x<0)=dx at *;generalize decide (y<0)=dy at *;go_wp2_with fail;refine (rtimes_any A1 A2 n1 c1 n2 c2 _ _ _ D1' D2 (by omega) (by omega)).mono ?_;rintro e W8 ⟨A3,n3,c3,rfl,h3,hb8,_⟩;have hB8:=hB.trans (hb8.mono hB.size);have L3:=h3.len400 L1 L2 D1' D2 hb8
 cases dx <;> cases dy
 all_goals go_wp2_with fail
 ·refine (rchecked_any false hs _ h3 (by omega)).mono ?_;rintro e W9 ⟨rfl,hb9⟩;go_wp2;refine bodyPost_ret (v := .tuple #[.string ⟨(tText z).toArray⟩,.int .i64 (tErr z)]) ?res rfl ⟨rfl,hB8.trans (hb9.mono hB8.size)⟩
  case res=>simp [results,Tryz.f151, go_sem]
 ·refine (rchecked_any true hs _ h3 (by omega)).mono ?_;rintro e W9 ⟨rfl,hb9⟩;go_wp2;refine bodyPost_ret (v := .tuple #[.string ⟨(tText z).toArray⟩,.int .i64 (tErr z)]) ?res rfl ⟨rfl,hB8.trans (hb9.mono hB8.size)⟩
  case res=>simp [results,Tryz.f151, go_sem]
 ·refine (rchecked_any true hs _ h3 (by omega)).mono ?_;rintro e W9 ⟨rfl,hb9⟩;go_wp2;refine bodyPost_ret (v := .tuple #[.string ⟨(tText z).toArray⟩,.int .i64 (tErr z)]) ?res rfl ⟨rfl,hB8.trans (hb9.mono hB8.size)⟩
  case res=>simp [results,Tryz.f151, go_sem]
 ·refine (rchecked_any false hs _ h3 (by omega)).mono ?_;rintro e W9 ⟨rfl,hb9⟩;go_wp2;refine bodyPost_ret (v := .tuple #[.string ⟨(tText z).toArray⟩,.int .i64 (tErr z)]) ?res rfl ⟨rfl,hB8.trans (hb9.mono hB8.size)⟩
  case res=>simp [results,Tryz.f151, go_sem]
end Go.Proofs.YtdikaoahgleffaaGreatDoor
namespace Go.Proofs.YtdikaoahgleffaaGreatDoor
open Go Go.RowKit Go.Lib Go.Shelf
theorem lit_oneD (w:World):IsD (w.alloc (.cells #[.int .i64 1] 3)) (some ⟨w.heap.size,0,none⟩) 1 1 1:=by
 have hlit:=World.ownsRow_lit (base:=w.heap.size) (e := 3) (size:=1) w #[.int .i64 1] 1 (Nat.le_refl _) (by unfold maxLen;omega) rfl;exact ⟨[1],Reads.of_own hlit,⟨Small10.mk (by decide) small10_nil,by decide⟩,by simp [val10],Nat.le_refl _⟩
theorem next_lt {X Y:Nat} (h:X<10 ^ 200):X / Y+1<10 ^ 201:=by
 have:=Nat.div_le_self X Y;rw [show (201:Nat)=200+1 from rfl,Nat.pow_succ];generalize (10:Nat) ^ 200=T at *;omega
theorem rdiv_core {a b:ByteArray} {x y:Int} (ha:Is a x) (hb:Is b y) (hx:Fits x) (hy:Fits y) (hy0:y≠0) (w:World) :
  Calls Tryz.prog 144 #[.string a,.string b] w (DivOk (x / y) (x % y) w):=by
 obtain ⟨fq,fr⟩:=div_fits hx hy hy0;have TQ:=Lib.hid (tText_fit fq);have EQ:=Lib.hid (tErr_fit fq);have HY0:Hid (0<y.natAbs):=Lib.hid (by omega);have LS:Hid (x.natAbs / y.natAbs+1<10 ^ 201):=Lib.hid (next_lt hx);have nz:(b.toList == [48])=false:=by rw [hb.eq];exact S_ne0 hy0
 by_cases hc:0≤x∨x.natAbs % y.natAbs=0
 ·obtain ⟨hq0,hr0⟩:=div_plain x y hy0 hc;clear hy0;by_cases hx1:x<0 <;> by_cases hy1:y<0
  ·have hx0:decide (x<0)=true:=by simp;omega
   have hy0':decide (y<0)=true:=by simp;omega
   have hzq:Hid (sv false (x.natAbs / y.natAbs)=x / y):=Lib.hid (by have h:=hq0;rw [if_pos (by omega)] at h;simpa [sv] using h);have hzr:Hid (sv false (x.natAbs % y.natAbs)=x % y):=Lib.hid (by simpa [sv] using hr0);have HR0:=Lib.hid (show x.natAbs % y.natAbs=0 by omega);clear hq0 hr0 hc hx1 hy1;go_enter Tryz.func144, Tryz.ntmps144;go_wp2_with fail;refine (rvalid_is ha hx _).mono ?_;rintro e W ⟨rfl,rfl⟩;go_wp2_with fail;refine (rvalid_is hb hy _).mono ?_;rintro e W ⟨rfl,rfl⟩;go_wp2_with fail;refine (rdigits_any ha hx _).mono ?_;rintro e W ⟨A1,n1,c1,rfl,D1,hb1⟩;rw [hx0];go_wp2_with fail;refine (rdigits_any hb hy _).mono ?_;rintro e W ⟨A2,n2,c2,rfl,D2,hb2⟩;rw [hy0'];have hB:=hb1.trans (hb2.mono hb1.size);have D1':=D1.below hb2;clear D1 hb1 hb2;clear hx0 hy0';have L1:=D1'.le hx;have L2:=D2.le hy;go_wp2_with fail;refine (rdivided_any A1 A2 n1 c1 n2 c2 _ _ _ D1' D2 L1 L2 HY0.out).mono ?_;rintro e W3 ⟨Aq,nq,cq,Ar,nr,cr,rfl,hq,hr,hb3⟩;have hB3:=hB.trans (hb3.mono hB.size);have Lq:nq≤200:=hq.le (Nat.lt_of_le_of_lt (Nat.div_le_self _ _) hx);have Lr:nr≤200:=hr.le (Nat.lt_trans (Nat.mod_lt _ HY0.out) hy);obtain rfl:nr=0:=hr.zero.2 HR0.out;go_wp2_with fail;refine (rchecked_any false hzq _ hq (by omega)).mono ?_;rintro e W4 ⟨rfl,hb4⟩;rw [TQ.out,EQ.out];have hB4:=hB3.trans (hb4.mono hB3.size);go_wp2_with fail;refine (rtextD false hzr _ (hr.below hb4) (by omega)).mono ?_;rintro e W5 ⟨rfl,hb5⟩;go_wp2;refine bodyPost_ret (v := .tuple #[.string (S (x / y)),.string (S (x % y)),.int .i64 0]) ?res rfl ⟨rfl,hB4.trans (hb5.mono hB4.size)⟩
   case res=>simp [results,Tryz.f144, go_sem]
  ·have hx0:decide (x<0)=true:=by simp;omega
   have hy0':decide (y<0)=false:=by simp;omega
   have hzq:Hid (sv true (x.natAbs / y.natAbs)=x / y):=Lib.hid (by have h:=hq0;rw [if_neg (by omega)] at h;simpa [sv] using h);have hzr:Hid (sv false (x.natAbs % y.natAbs)=x % y):=Lib.hid (by simpa [sv] using hr0);have HR0:=Lib.hid (show x.natAbs % y.natAbs=0 by omega);clear hq0 hr0 hc hx1 hy1;go_enter Tryz.func144, Tryz.ntmps144;go_wp2_with fail;refine (rvalid_is ha hx _).mono ?_;rintro e W ⟨rfl,rfl⟩;go_wp2_with fail;refine (rvalid_is hb hy _).mono ?_;rintro e W ⟨rfl,rfl⟩;go_wp2_with fail;refine (rdigits_any ha hx _).mono ?_;rintro e W ⟨A1,n1,c1,rfl,D1,hb1⟩;rw [hx0];go_wp2_with fail;refine (rdigits_any hb hy _).mono ?_;rintro e W ⟨A2,n2,c2,rfl,D2,hb2⟩;rw [hy0'];have hB:=hb1.trans (hb2.mono hb1.size);have D1':=D1.below hb2;clear D1 hb1 hb2;clear hx0 hy0';have L1:=D1'.le hx;have L2:=D2.le hy;go_wp2_with fail;refine (rdivided_any A1 A2 n1 c1 n2 c2 _ _ _ D1' D2 L1 L2 HY0.out).mono ?_;rintro e W3 ⟨Aq,nq,cq,Ar,nr,cr,rfl,hq,hr,hb3⟩;have hB3:=hB.trans (hb3.mono hB.size);have Lq:nq≤200:=hq.le (Nat.lt_of_le_of_lt (Nat.div_le_self _ _) hx);have Lr:nr≤200:=hr.le (Nat.lt_trans (Nat.mod_lt _ HY0.out) hy);obtain rfl:nr=0:=hr.zero.2 HR0.out;go_wp2_with fail;refine (rchecked_any true hzq _ hq (by omega)).mono ?_;rintro e W4 ⟨rfl,hb4⟩;rw [TQ.out,EQ.out];have hB4:=hB3.trans (hb4.mono hB3.size);go_wp2_with fail;refine (rtextD false hzr _ (hr.below hb4) (by omega)).mono ?_;rintro e W5 ⟨rfl,hb5⟩;go_wp2;refine bodyPost_ret (v := .tuple #[.string (S (x / y)),.string (S (x % y)),.int .i64 0]) ?res rfl ⟨rfl,hB4.trans (hb5.mono hB4.size)⟩
   case res=>simp [results,Tryz.f144, go_sem]
  ·have hx0:decide (x<0)=false:=by simp;omega
   have hy0':decide (y<0)=true:=by simp;omega
   have hzq:Hid (sv true (x.natAbs / y.natAbs)=x / y):=Lib.hid (by have h:=hq0;rw [if_neg (by omega)] at h;simpa [sv] using h);have hzr:Hid (sv false (x.natAbs % y.natAbs)=x % y):=Lib.hid (by simpa [sv] using hr0);clear hq0 hr0 hc hx1 hy1;go_enter Tryz.func144, Tryz.ntmps144;go_wp2_with fail;refine (rvalid_is ha hx _).mono ?_;rintro e W ⟨rfl,rfl⟩;go_wp2_with fail;refine (rvalid_is hb hy _).mono ?_;rintro e W ⟨rfl,rfl⟩;go_wp2_with fail;refine (rdigits_any ha hx _).mono ?_;rintro e W ⟨A1,n1,c1,rfl,D1,hb1⟩;rw [hx0];go_wp2_with fail;refine (rdigits_any hb hy _).mono ?_;rintro e W ⟨A2,n2,c2,rfl,D2,hb2⟩;rw [hy0'];have hB:=hb1.trans (hb2.mono hb1.size);have D1':=D1.below hb2;clear D1 hb1 hb2;clear hx0 hy0';have L1:=D1'.le hx;have L2:=D2.le hy;go_wp2_with fail;refine (rdivided_any A1 A2 n1 c1 n2 c2 _ _ _ D1' D2 L1 L2 HY0.out).mono ?_;rintro e W3 ⟨Aq,nq,cq,Ar,nr,cr,rfl,hq,hr,hb3⟩;have hB3:=hB.trans (hb3.mono hB.size);have Lq:nq≤200:=hq.le (Nat.lt_of_le_of_lt (Nat.div_le_self _ _) hx);have Lr:nr≤200:=hr.le (Nat.lt_trans (Nat.mod_lt _ HY0.out) hy);go_wp2_with fail;refine (rchecked_any true hzq _ hq (by omega)).mono ?_;rintro e W4 ⟨rfl,hb4⟩;rw [TQ.out,EQ.out];have hB4:=hB3.trans (hb4.mono hB3.size);go_wp2_with fail;refine (rtextD false hzr _ (hr.below hb4) (by omega)).mono ?_;rintro e W5 ⟨rfl,hb5⟩;go_wp2;refine bodyPost_ret (v := .tuple #[.string (S (x / y)),.string (S (x % y)),.int .i64 0]) ?res rfl ⟨rfl,hB4.trans (hb5.mono hB4.size)⟩
   case res=>simp [results,Tryz.f144, go_sem]
  ·have hx0:decide (x<0)=false:=by simp;omega
   have hy0':decide (y<0)=false:=by simp;omega
   have hzq:Hid (sv false (x.natAbs / y.natAbs)=x / y):=Lib.hid (by have h:=hq0;rw [if_pos (by omega)] at h;simpa [sv] using h);have hzr:Hid (sv false (x.natAbs % y.natAbs)=x % y):=Lib.hid (by simpa [sv] using hr0);clear hq0 hr0 hc hx1 hy1;go_enter Tryz.func144, Tryz.ntmps144;go_wp2_with fail;refine (rvalid_is ha hx _).mono ?_;rintro e W ⟨rfl,rfl⟩;go_wp2_with fail;refine (rvalid_is hb hy _).mono ?_;rintro e W ⟨rfl,rfl⟩;go_wp2_with fail;refine (rdigits_any ha hx _).mono ?_;rintro e W ⟨A1,n1,c1,rfl,D1,hb1⟩;rw [hx0];go_wp2_with fail;refine (rdigits_any hb hy _).mono ?_;rintro e W ⟨A2,n2,c2,rfl,D2,hb2⟩;rw [hy0'];have hB:=hb1.trans (hb2.mono hb1.size);have D1':=D1.below hb2;clear D1 hb1 hb2;clear hx0 hy0';have L1:=D1'.le hx;have L2:=D2.le hy;go_wp2_with fail;refine (rdivided_any A1 A2 n1 c1 n2 c2 _ _ _ D1' D2 L1 L2 HY0.out).mono ?_;rintro e W3 ⟨Aq,nq,cq,Ar,nr,cr,rfl,hq,hr,hb3⟩;have hB3:=hB.trans (hb3.mono hB.size);have Lq:nq≤200:=hq.le (Nat.lt_of_le_of_lt (Nat.div_le_self _ _) hx);have Lr:nr≤200:=hr.le (Nat.lt_trans (Nat.mod_lt _ HY0.out) hy);go_wp2_with fail;refine (rchecked_any false hzq _ hq (by omega)).mono ?_;rintro e W4 ⟨rfl,hb4⟩;rw [TQ.out,EQ.out];have hB4:=hB3.trans (hb4.mono hB3.size);go_wp2_with fail;refine (rtextD false hzr _ (hr.below hb4) (by omega)).mono ?_;rintro e W5 ⟨rfl,hb5⟩;go_wp2;refine bodyPost_ret (v := .tuple #[.string (S (x / y)),.string (S (x % y)),.int .i64 0]) ?res rfl ⟨rfl,hB4.trans (hb5.mono hB4.size)⟩
   case res=>simp [results,Tryz.f144, go_sem]
 ·have hx1:x<0:=by omega
  obtain ⟨hq0,hr0⟩:=div_fixed x y hy0 hx1 (fun e=>hc (.inr e));clear hy0;by_cases hy1:y<0
  ·have hx0:decide (x<0)=true:=by simp;omega
   have hy0':decide (y<0)=true:=by simp;omega
   have hzq:Hid (sv false (x.natAbs / y.natAbs+1)=x / y):=Lib.hid (by have h:=hq0;rw [if_pos (by omega)] at h;simpa [sv] using h);have hzr:Hid (sv false (y.natAbs - x.natAbs % y.natAbs)=x % y):=Lib.hid (by simpa [sv] using hr0);have HR0:=Lib.hid (show 0<x.natAbs % y.natAbs by omega);clear hq0 hr0 hc hx1 hy1;go_enter Tryz.func144, Tryz.ntmps144;go_wp2_with fail;refine (rvalid_is ha hx _).mono ?_;rintro e W ⟨rfl,rfl⟩;go_wp2_with fail;refine (rvalid_is hb hy _).mono ?_;rintro e W ⟨rfl,rfl⟩;go_wp2_with fail;refine (rdigits_any ha hx _).mono ?_;rintro e W ⟨A1,n1,c1,rfl,D1,hb1⟩;rw [hx0];go_wp2_with fail;refine (rdigits_any hb hy _).mono ?_;rintro e W ⟨A2,n2,c2,rfl,D2,hb2⟩;rw [hy0'];have hB:=hb1.trans (hb2.mono hb1.size);have D1':=D1.below hb2;clear D1 hb1 hb2;clear hx0 hy0';have L1:=D1'.le hx;have L2:=D2.le hy;go_wp2_with fail;refine (rdivided_any A1 A2 n1 c1 n2 c2 _ _ _ D1' D2 L1 L2 HY0.out).mono ?_;rintro e W3 ⟨Aq,nq,cq,Ar,nr,cr,rfl,hq,hr,hb3⟩;have hB3:=hB.trans (hb3.mono hB.size);have Lq:nq≤200:=hq.le (Nat.lt_of_le_of_lt (Nat.div_le_self _ _) hx);have Lr:nr≤200:=hr.le (Nat.lt_trans (Nat.mod_lt _ HY0.out) hy);have hnr:0<nr:=by
    rcases Nat.eq_zero_or_pos nr with h | h
    ·have:=hr.zero.1 h;have:=HR0.out;omega
    ·exact h
   have hY3:=D2.below hb3;go_wp2_with fail;refine (rplus_any Aq (some ⟨W3.heap.size,0,none⟩) nq cq 1 1 _ 1 _ (hq.below ((Below.refl _ W3).alloc (Nat.le_refl _) _)) (lit_oneD W3) (by omega) (by omega)).mono ?_;rintro e W4 ⟨As,ns,cs,rfl,hs,hb4',_⟩;have hb4:Below W3.heap.size W3 W4:=((Below.refl _ W3).alloc (Nat.le_refl _) _).trans (hb4'.mono (by simp));have hB4:=hB3.trans (hb4.mono hB3.size);go_wp2_with fail;refine (rminus_any A2 Ar n2 c2 nr cr _ _ _ (hY3.below hb4) (hr.below hb4) (by omega) (Nat.le_of_lt (Nat.mod_lt _ HY0.out))).mono ?_;rintro e W5 ⟨Ad,nd,cd,rfl,hd,hb5,_⟩;have hB5:=hB4.trans (hb5.mono hB4.size);have Ls:ns≤201:=hs.le LS.out;have Ld:nd≤200:=hd.le (Nat.lt_of_le_of_lt (Nat.sub_le _ _) hy);go_wp2_with fail;refine (rchecked_any false hzq _ (hs.below hb5) (by omega)).mono ?_;rintro e W6 ⟨rfl,hb6⟩;rw [TQ.out,EQ.out];have hB6:=hB5.trans (hb6.mono hB5.size);go_wp2_with fail;refine (rtextD false hzr _ (hd.below hb6) (by omega)).mono ?_;rintro e W7 ⟨rfl,hb7⟩;go_wp2;refine bodyPost_ret (v := .tuple #[.string (S (x / y)),.string (S (x % y)),.int .i64 0]) ?res rfl ⟨rfl,hB6.trans (hb7.mono hB6.size)⟩
   case res=>simp [results,Tryz.f144, go_sem]
  ·have hx0:decide (x<0)=true:=by simp;omega
   have hy0':decide (y<0)=false:=by simp;omega
   have hzq:Hid (sv true (x.natAbs / y.natAbs+1)=x / y):=Lib.hid (by have h:=hq0;rw [if_neg (by omega)] at h;simpa [sv] using h);have hzr:Hid (sv false (y.natAbs - x.natAbs % y.natAbs)=x % y):=Lib.hid (by simpa [sv] using hr0);have HR0:=Lib.hid (show 0<x.natAbs % y.natAbs by omega);clear hq0 hr0 hc hx1 hy1;go_enter Tryz.func144, Tryz.ntmps144;go_wp2_with fail;refine (rvalid_is ha hx _).mono ?_;rintro e W ⟨rfl,rfl⟩;go_wp2_with fail;refine (rvalid_is hb hy _).mono ?_;rintro e W ⟨rfl,rfl⟩;go_wp2_with fail;refine (rdigits_any ha hx _).mono ?_;rintro e W ⟨A1,n1,c1,rfl,D1,hb1⟩;rw [hx0];go_wp2_with fail;refine (rdigits_any hb hy _).mono ?_;rintro e W ⟨A2,n2,c2,rfl,D2,hb2⟩;rw [hy0'];have hB:=hb1.trans (hb2.mono hb1.size);have D1':=D1.below hb2;clear D1 hb1 hb2;clear hx0 hy0';have L1:=D1'.le hx;have L2:=D2.le hy;go_wp2_with fail;refine (rdivided_any A1 A2 n1 c1 n2 c2 _ _ _ D1' D2 L1 L2 HY0.out).mono ?_;rintro e W3 ⟨Aq,nq,cq,Ar,nr,cr,rfl,hq,hr,hb3⟩;have hB3:=hB.trans (hb3.mono hB.size);have Lq:nq≤200:=hq.le (Nat.lt_of_le_of_lt (Nat.div_le_self _ _) hx);have Lr:nr≤200:=hr.le (Nat.lt_trans (Nat.mod_lt _ HY0.out) hy);have hnr:0<nr:=by
    rcases Nat.eq_zero_or_pos nr with h | h
    ·have:=hr.zero.1 h;have:=HR0.out;omega
    ·exact h
   have hY3:=D2.below hb3;go_wp2_with fail;refine (rplus_any Aq (some ⟨W3.heap.size,0,none⟩) nq cq 1 1 _ 1 _ (hq.below ((Below.refl _ W3).alloc (Nat.le_refl _) _)) (lit_oneD W3) (by omega) (by omega)).mono ?_;rintro e W4 ⟨As,ns,cs,rfl,hs,hb4',_⟩;have hb4:Below W3.heap.size W3 W4:=((Below.refl _ W3).alloc (Nat.le_refl _) _).trans (hb4'.mono (by simp));have hB4:=hB3.trans (hb4.mono hB3.size);go_wp2_with fail;refine (rminus_any A2 Ar n2 c2 nr cr _ _ _ (hY3.below hb4) (hr.below hb4) (by omega) (Nat.le_of_lt (Nat.mod_lt _ HY0.out))).mono ?_;rintro e W5 ⟨Ad,nd,cd,rfl,hd,hb5,_⟩;have hB5:=hB4.trans (hb5.mono hB4.size);have Ls:ns≤201:=hs.le LS.out;have Ld:nd≤200:=hd.le (Nat.lt_of_le_of_lt (Nat.sub_le _ _) hy);go_wp2_with fail;refine (rchecked_any true hzq _ (hs.below hb5) (by omega)).mono ?_;rintro e W6 ⟨rfl,hb6⟩;rw [TQ.out,EQ.out];have hB6:=hB5.trans (hb6.mono hB5.size);go_wp2_with fail;refine (rtextD false hzr _ (hd.below hb6) (by omega)).mono ?_;rintro e W7 ⟨rfl,hb7⟩;go_wp2;refine bodyPost_ret (v := .tuple #[.string (S (x / y)),.string (S (x % y)),.int .i64 0]) ?res rfl ⟨rfl,hB6.trans (hb7.mono hB6.size)⟩
   case res=>simp [results,Tryz.f144, go_sem]
theorem rdivS {a b:ByteArray} {x y q r:Int} (ha:Is a x) (hb:Is b y) (hq:Hid (x / y=q)) (hr:Hid (x % y=r)) (hx:Fits x) (hy:Fits y) (hy0:Hid (y≠0)) (w:World) :
  Calls Tryz.prog 144 #[.string a,.string b] w (DivOk q r w):=by
 have:=rdiv_core ha hb hx hy hy0.out w;rw [hq.out,hr.out] at this;exact this
theorem rgcdS {a b:ByteArray} {x y v:Int} (ha:Is a x) (hb:Is b y) (hv:Hid (((x.natAbs.gcd y.natAbs:Nat):Int)=v)) (hx:Fits x) (hy:Fits y) (w:World) :
  Calls Tryz.prog 143 #[.string a,.string b] w (StrOk v w):=by
 have hX:Hid (x.natAbs<10 ^ 200):=hx;have hY:Hid (y.natAbs<10 ^ 200):=hy;have fg:Fits v:=by rw [← hv.out];exact gcd_fits hx hy
 go_enter Tryz.func143, Tryz.ntmps143;go_wp2_with fail;refine (rvalid_is ha hx _).mono ?_;rintro e W ⟨rfl,hw⟩;rw [hw];clear hw W;go_wp2_with fail;refine (rvalid_is hb hy _).mono ?_;rintro e W ⟨rfl,hw⟩;rw [hw];clear hw W;go_wp2_with fail;refine (rdigits_any ha hx _).mono ?_;rintro e W ⟨A1,n1,c1,rfl,D1,hb1⟩;go_wp2_with fail;refine (rdigits_any hb hy _).mono ?_;rintro e W ⟨A2,n2,c2,rfl,D2,hb2⟩;have hB:=hb1.trans (hb2.mono hb1.size);have D1':=D1.below hb2;clear D1 hb1 hb2;generalize decide (x<0)=dx at *;generalize decide (y<0)=dy at *;go_wp2;go_loopw [7,9] (fun kv lv wr=>∃ (A:Option Addr) (n c:Nat) (B:Option Addr) (m e p q:Nat),kv = .slice A n c∧lv = .slice B m e∧IsD wr A n c p∧IsD wr B m e q∧Hid (p.gcd q=x.natAbs.gcd y.natAbs)∧Below w.heap.size w wr∧Hid (p<10 ^ 200)∧Hid (q<10 ^ 200))
  (fun _ lv wr=>numD wr lv)
 case atStart=>exact ⟨A1,n1,c1,A2,n2,c2,_,_,rfl,rfl,D1',D2,rfl,hB,hX,hY⟩
 case round =>
  clear D1' D2 hB;obtain ⟨A,n,c,B,m,e,p,q,rfl,rfl,hp,hq,hg,hBr,HP,HQ⟩:=hrel;have Ln:=hp.le HP.out;have Lm:=hq.le HQ.out;by_cases hz:q=0
  ·have hm0:m=0:=hq.zero.2 hz;subst hm0;have hs:Hid (sv false p=v):=Lib.hid (by have h:=hg.out;rw [hz,Nat.gcd_zero_right] at h;rw [← hv.out,← h];simp [sv]);have TQ:=Lib.hid (tText_fit fg);have EQ:=Lib.hid (tErr_fit fg);clear hz;go_wp2_with fail;refine (rchecked_any false hs _ hp (by omega)).mono ?_;rintro e' W4 ⟨rfl,hb4⟩;rw [TQ.out,EQ.out];go_wp2;refine bodyPost_ret (v := .tuple #[.string (S v),.int .i64 0]) ?res rfl ⟨rfl,hBr.trans (hb4.mono hBr.size)⟩
   case res=>simp [results,Tryz.f143, go_sem]
  ·have hm0:0<m:=by
    rcases Nat.eq_zero_or_pos m with h | h
    ·exact absurd (hq.zero.1 h) hz
    ·exact h
   have hqp:Hid (0<q):=Lib.hid (by omega);clear hz;go_wp2_with fail;refine (rdivided_any A B n c m e p q _ hp hq (by omega) (by omega) hqp.out).mono ?_;rintro e' w3 ⟨Aq,nq,cq,Ar,nr,cr,rfl,hqq,hrr,hb3⟩;go_wp2;go_roundw
   case rel=>exact ⟨B,m,e,Ar,nr,cr,q,p % q,rfl,rfl,hq.below hb3,hrr,Lib.hid (by rw [← hg.out,Nat.gcd_comm p q,Nat.gcd_rec q p,Nat.gcd_comm]),hBr.trans (hb3.mono hBr.size),HQ,Lib.hid (Nat.lt_trans (Nat.mod_lt _ hqp.out) HQ.out)⟩
   case measure=>rw [numD_eq hrr,numD_eq hq];exact Nat.mod_lt _ hqp.out
end Go.Proofs.YtdikaoahgleffaaGreatDoor
namespace Go.Proofs.YtdikaoahgleffaaGreatDoor
open Go Go.RowKit Go.Lib Go.Shelf
structure FInv (u m:Nat) (l:List Nat):Prop where
 small:Small10 l
 eq:val10 l+10 ^ l.length * m=u
 top:l≠[]→10 ^ (l.length - 1)≤u
theorem FInv.start (u:Nat):FInv u u []:=⟨small10_nil,by simp [val10],fun h=>absurd rfl h⟩
theorem FInv.step {u m:Nat} {l:List Nat} (h:FInv u m l) (hm:0<m):FInv u (m / 10) (l ++ [m % 10]):=by
 have he:=h.eq;have hdm:=Nat.div_add_mod m 10;refine ⟨h.small.append (Small10.mk (Nat.mod_lt _ (by decide)) small10_nil),?_,fun _ => ?_⟩
 ·rw [val10_snoc,List.length_append,List.length_cons,List.length_nil,Nat.zero_add,Nat.pow_succ];generalize m / 10=q at *;generalize m % 10=r at *;rw [← hdm,Nat.mul_add] at he;rw [Nat.mul_comm r,Nat.mul_assoc];omega
 ·rw [List.length_append,List.length_cons,List.length_nil,Nat.zero_add,Nat.add_sub_cancel];have:10 ^ l.length≤10 ^ l.length * m:=Nat.le_mul_of_pos_right _ hm;omega
theorem FInv.len {u m:Nat} {l:List Nat} (h:FInv u m l) (hu:u≤9223372036854775808):l.length≤19:=by
 by_cases hl:l=[]
 ·subst hl;simp
 ·have h1:=h.top hl;have h2:(10:Nat) ^ (l.length - 1)<10 ^ 19:=by
   have:(9223372036854775808:Nat)<10 ^ 19:=by decide
   omega
  have:=(Nat.pow_lt_pow_iff_right (by decide:1<10)).1 h2;omega
theorem FInv.done {u:Nat} {l:List Nat} (h:FInv u 0 l):Norm10 l∧val10 l=u:=by
 have hv:val10 l=u:=by have:=h.eq;omega
 refine ⟨?_,hv⟩;by_cases hl:l=[]
 ·subst hl;exact norm10_nil
 ·exact norm10_of_ge h.small hl (by rw [hv];exact h.top hl)
theorem tneg (m:Int) (h:m≤0):m.tmod 10≤0∧m.tdiv 10≤0:=by
 obtain ⟨p,rfl⟩:∃ p:Int,m = -p:=⟨-m,by omega⟩
 rw [Int.neg_tmod,Int.neg_tdiv];have h1:0≤p.tmod 10:=Int.tmod_nonneg _ (by omega);have h2:0≤p.tdiv 10:=Int.tdiv_nonneg (by omega) (by omega);omega
theorem FInv.done0 {u:Nat} {l:List Nat} (h:FInv u (Int.natAbs 0) l):Norm10 l∧val10 l=u:=FInv.done h
theorem rfrom_nn (n:Int) (hj:IsInt n) (hn:0≤n) (w:World):Calls Tryz.prog 88 #[.int .i64 n] w (FromOk n w):=by
 obtain ⟨i0,hi,hz0,hz1,hz2⟩:=info_parts intInfo;have b0:=hj.1;have b1:=hj.2;have hs:Hid (sv false n.natAbs=n):=Lib.hid (by simp [sv];omega);have hn9:decide (n<0)=false:=decide_eq_false (by omega);go_enter Tryz.func88, Tryz.ntmps88;go_wp2;go_loopw [3,4] (fun v mv wr=>∃ (mm:Int) (k:Nat) (V:Option Addr) (cv:Nat) (l:List Nat),v = .slice V k cv∧mv = .int .i64 mm∧wr.ownsRow w.heap.size 3 1 (.slice V k cv) k (ints l)∧Below w.heap.size w wr∧Hid (FInv n.natAbs mm.natAbs l)∧0≤mm ∧ -9223372036854775808≤mm∧mm≤9223372036854775807)
  (fun _ mv _=>(RowKit.intOf mv).natAbs)
 case atStart=>exact ⟨n,0,none,0,[],rfl,rfl,World.ownsRow_nil _ _ _ _,Below.refl _ _,FInv.start _,by omega,by omega,by omega⟩
 case round =>
  obtain ⟨mm,k,V,cv,l,rfl,rfl,hown,hB,hI,hm0,hm1,hm2⟩:=hrel;have hlen:=hI.out.len (by omega);have hkl:k=l.length:=by have:=hown.1;simpa [ints] using this.symm
  have hk:k≤19:=by omega
  clear hlen hkl;by_cases hz:mm=0
  ·subst hz;have hd:=Lib.hid hI.out.done0;clear hI;have hnum:NumV wr V k l:=Reads.of_own hown;have hcap:=own_le hown;have hisd:IsD wr V k cv n.natAbs:=⟨l,hnum,hd.out.1,hd.out.2,hcap⟩
   go_wp2_with (go_at_call 145; go_must ((with_reducible refine (rtextD false hs _ hisd (by omega)).mono ?_);rintro e w2 ⟨rfl,hb2⟩));go_ret;exact ⟨rfl,hB.trans (hb2.mono hB.size)⟩
  ·have hne:(mm == 0)=false:=by simpa using hz
   have hst:=Lib.hid (hI.out.step (by omega));have hmp:0<mm:=by omega
   have hD:=Lib.hid (show (mm % 10).toNat=mm.natAbs % 10 by omega);have hQ:=Lib.hid (show (mm / 10).natAbs=mm.natAbs / 10 by omega);clear hz;go_wp2_with (at_builtin;refine wpList_append_own _ rfl (.tmp 19) (.tmp 21) 124 rfl w.heap.size 3 i0 (.int .i64 0) 1 8 Tryz.underlying124 hi hz0 hz1 hz2 rfl (by decide) (.slice V k cv) k (ints l) rfl (hown.alloc _) ⟨wr.heap.size,0,none⟩ 1 1 [.int .i64 (mm % 10)] rfl rfl (cell_one_new _ _ _) (by simp [Value.oneCell']) (by unfold maxLen;omega) (by omega) (by have:=hB.size;simp;omega) ?_;intro v' w3 hown3 hgrow3 _;obtain ⟨V3,c3,rfl⟩:=own_slice hown3);go_roundw
   case rel=>exact ⟨mm / 10,k+1,V3,c3,l ++ [(mm % 10).toNat],rfl,rfl,by rw [← ints_snoc _ _ (by omega)];exact hown3,(hB.alloc hB.size _).grown hgrow3 (by have:=hB.size;simp;omega) (own_ge hown),by rw [hD.out,hQ.out];exact hst,by omega,by omega,by omega⟩
   case measure=>simp only [RowKit.intOf];omega
theorem rfrom_neg (n:Int) (hj:IsInt n) (hn:n<0) (w:World):Calls Tryz.prog 88 #[.int .i64 n] w (FromOk n w):=by
 obtain ⟨i0,hi,hz0,hz1,hz2⟩:=info_parts intInfo;have b0:=hj.1;have b1:=hj.2;have hs:Hid (sv true n.natAbs=n):=Lib.hid (by simp [sv];omega);go_enter Tryz.func88, Tryz.ntmps88;go_wp2;go_loopw [3,4] (fun v mv wr=>∃ (mm:Int) (k:Nat) (V:Option Addr) (cv:Nat) (l:List Nat),v = .slice V k cv∧mv = .int .i64 mm∧wr.ownsRow w.heap.size 3 1 (.slice V k cv) k (ints l)∧Below w.heap.size w wr∧Hid (FInv n.natAbs mm.natAbs l)∧mm≤0 ∧ -9223372036854775808≤mm∧mm≤9223372036854775807)
  (fun _ mv _=>(RowKit.intOf mv).natAbs)
 case atStart=>exact ⟨n,0,none,0,[],rfl,rfl,World.ownsRow_nil _ _ _ _,Below.refl _ _,FInv.start _,by omega,by omega,by omega⟩
 case round =>
  obtain ⟨mm,k,V,cv,l,rfl,rfl,hown,hB,hI,hm0,hm1,hm2⟩:=hrel;have hlen:=hI.out.len (by omega);have hkl:k=l.length:=by have:=hown.1;simpa [ints] using this.symm
  have hk:k≤19:=by omega
  clear hlen hkl;by_cases hz:mm=0
  ·subst hz;have hd:=Lib.hid hI.out.done0;clear hI;have hnum:NumV wr V k l:=Reads.of_own hown;have hcap:=own_le hown;have hisd:IsD wr V k cv n.natAbs:=⟨l,hnum,hd.out.1,hd.out.2,hcap⟩
   go_wp2_with (go_at_call 145; go_must ((with_reducible refine (rtextD true hs _ hisd (by omega)).mono ?_);rintro e w2 ⟨rfl,hb2⟩));go_ret;exact ⟨rfl,hB.trans (hb2.mono hB.size)⟩
  ·have hne:(mm == 0)=false:=by simpa using hz
   have hst:=Lib.hid (hI.out.step (by omega));have hmp:mm<0:=by omega
   have ht0:(mm.tmod 10).natAbs=mm.natAbs % 10:=by rw [Int.natAbs_tmod];rfl
   have hu0:(mm.tdiv 10).natAbs=mm.natAbs / 10:=by rw [Int.natAbs_tdiv];rfl
   obtain ⟨hts,hus⟩:=tneg mm (by omega);obtain ⟨t,et⟩:∃ t,mm.tmod 10=t:=⟨_,rfl⟩
   obtain ⟨u,eu⟩:∃ u,mm.tdiv 10=u:=⟨_,rfl⟩
   rw [et] at ht0 hts;rw [eu] at hu0 hus;have t1 : -10<t:=by omega
   have u1 : -9223372036854775808≤u:=by omega
   have HT:=Lib.hid ht0;have HU:=Lib.hid hu0;have hlt:u.natAbs<mm.natAbs:=by omega
   clear hz ht0 hu0;by_cases htn:t<0
   ·go_wp2_with (at_builtin;refine wpList_append_own _ rfl (.tmp 19) (.tmp 21) 124 rfl w.heap.size 3 i0 (.int .i64 0) 1 8 Tryz.underlying124 hi hz0 hz1 hz2 rfl (by decide) (.slice V k cv) k (ints l) rfl (hown.alloc _) ⟨wr.heap.size,0,none⟩ 1 1 [.int .i64 (-t)] rfl rfl (cell_one_new _ _ _) (by simp [Value.oneCell']) (by unfold maxLen;omega) (by omega) (by have:=hB.size;simp;omega) ?_;intro v' w3 hown3 hgrow3 _;obtain ⟨V3,c3,rfl⟩:=own_slice hown3);go_roundw
    case rel=>exact ⟨u,k+1,V3,c3,l ++ [(-t).toNat],rfl,rfl,by rw [← ints_snoc _ _ (by omega)];exact hown3,(hB.alloc hB.size _).grown hgrow3 (by have:=hB.size;simp;omega) (own_ge hown),by rw [show (-t).toNat=mm.natAbs % 10 by have:=HT.out;omega,HU.out];exact hst,by omega,by omega,by omega⟩
    case measure=>simp only [RowKit.intOf];exact hlt
   ·obtain rfl:t=0:=by omega
    go_wp2_with (at_builtin;refine wpList_append_own _ rfl (.tmp 19) (.tmp 21) 124 rfl w.heap.size 3 i0 (.int .i64 0) 1 8 Tryz.underlying124 hi hz0 hz1 hz2 rfl (by decide) (.slice V k cv) k (ints l) rfl (hown.alloc _) ⟨wr.heap.size,0,none⟩ 1 1 [.int .i64 (0)] rfl rfl (cell_one_new _ _ _) (by simp [Value.oneCell']) (by unfold maxLen;omega) (by omega) (by have:=hB.size;simp;omega) ?_;intro v' w3 hown3 hgrow3 _;obtain ⟨V3,c3,rfl⟩:=own_slice hown3);go_roundw
    case rel=>exact ⟨u,k+1,V3,c3,l ++ [(0:Int).toNat],rfl,rfl,by rw [← ints_snoc _ _ (by omega)];exact hown3,(hB.alloc hB.size _).grown hgrow3 (by have:=hB.size;simp;omega) (own_ge hown),by rw [show (0:Int).toNat=mm.natAbs % 10 by have:=HT.out;omega,HU.out];exact hst,by omega,by omega,by omega⟩
    case measure=>simp only [RowKit.intOf];exact hlt
theorem rfromIntS {n:Int} (h:Hid (IsInt n)) (w:World):Calls Tryz.prog 88 #[.int .i64 n] w (FromOk n w):=by
 by_cases hn:n<0
 ·exact rfrom_neg n h.out hn w
 ·exact rfrom_nn n h.out (by omega) w
end Go.Proofs.YtdikaoahgleffaaGreatDoor
