/- The exported functions, over strings: division. The exported functions over. -/
import Derived.Test.YtdiecekagiledaaGreatDoorVStr3
set_option maxRecDepth 100000
set_option maxHeartbeats 4000000
namespace Go.Proofs.YtdiecekagiledaaGreatDoor
open Go Go.RowKit Go.Lib Go.Shelf Go.Proofs.Tryz
theorem qb1(w:World):Calls prog 186 #[] w fun e w'=>∃ A n c,e=.returned (.slice A n c)/\IsNum w' A n c 1/\Aa w w':=by
 go_enter func186,ntmps186;go_wp2;go_ret;have hlit:=World.ownsRow_lit (base:=w.heap.size) (e:=3) (size:=1) w #[.int .i64 1] 1 (Am _) (by unfold maxLen;omega) rfl;exact⟨_,1,1,rfl,⟨[1],BJ hlit,⟨Small.mk dd qJ,by decide⟩,by simp[val],Am _⟩,(Au _ w).alloc (Am _) _⟩
def yaK(zq zr:Int)(w:World)(e:Ending)(w':World):Prop:=e=.returned (.tuple #[.string (S zq),.string (S zr),.int .i64 0])/\Aa w w'
def kbL(dx dy:Bool)(X Y:Nat)(w:World)(e:Ending)(w':World):Prop:=∃ u v,e=.returned (.tuple #[u,v,.bool true])/\IsSig w' u dx X/\IsSig w' v dy Y/\Aa w w'
theorem kbS(a b:ByteArray)(dx dy:Bool)(X Y:Nat)(w:World)(hbo:Calls prog 137 #[.string a,.string b] w (kbL dx dy X Y w))(ht:Tab w)
  (hX:X<10000^250) (hY:Y<10000^250) (hXY:X/Y<10000^250) (hR:X%Y<10000^250) (hY0:0<Y) (hc:dx=false\/X%Y=0) (zq zr:Int)
  (hq:jn (sv (dx != dy) (X/Y))=itoa zq/\qH (sv (dx != dy) (X/Y))=0) (hr:jn (sv false (X%Y))=itoa zr/\qH (sv false (X%Y))=0) :
  Calls prog 150 #[.string a,.string b] w (yaK zq zr w):=by
 have LX:=hid hX;have LY:=hid hY;have LQ:=hid hXY;have LR:=hid hR;have HQ:=hid hq;have HR:=hid hr;have HC:Hid (dx=true->X%Y=0):=hid (fun h=>by rw[h]at hc;simpa using hc);clear hX hY hXY hR hq hr hc
 cases dx<;>cases dy
 ·clear HC;have HQ:Hid (jn (sv false (X/Y))=itoa zq/\qH (sv false (X/Y))=0):=HQ;go_enter func150,ntmps150;go_wp2_with (first
  | (go_at_call 137;go_must (refine hbo.mono ?_;rintro e w1⟨u,v,rfl,⟨A1,n1,k1,rfl,hu⟩,⟨A2,n2,k2,rfl,hv⟩,hb1⟩;have hn2:0<n2:=(by rcases Az n2 with h|h;exact absurd (hv.zero.1 h) oo;exact h);have hn2':((n2:Int)==0)=false:=(by simp;omega)))
  | (go_at_call 139;obtain⟨m0,m1⟩:=jI w1 #[.bool false,.slice A1 n1 k1] #[.bool false,.slice A2 n2 k2] 149;have hb2:=qo w1 (.cells #[.bool false,.slice A1 n1 k1] 149) (.cells #[.bool false,.slice A2 n2 k2] 149);have hu2:=hu.below hb2;have hv2:=hv.below hb2;have hB2:=hb1.trans (hb2.mono hb1.size);generalize ((w1.alloc (.cells #[.bool false,.slice A1 n1 k1] 149)).alloc (.cells #[.bool false,.slice A2 n2 k2] 149))=V at *;go_must (refine(zF A1 A2 n1 k1 n2 k2 _ _ _ hu2 hv2 LX.out LY.out hY0).mono ?_;rintro e' w3⟨Aq,nq,cq,Ar,nr,cr,rfl,hqq,hrr,hb3⟩;have g0:=(hb3.block _ (Ag.1 m0).1).trans m0;have g1:=(hb3.block _ (Ag.1 m1).1).trans m1;obtain⟨d1,d2,_,_⟩:=zb g0;obtain⟨d3,d4,_,_⟩:=zb g1;have hB3:=hB2.trans (hb3.mono hB2.size)))
  | (go_at_call_of 140 (Value.agg #[.bool false,.slice Aq nq cq]);go_must (refine(vt _ false (X/Y) _ ⟨Aq,nq,cq,rfl,hqq⟩ LQ.out (ht.below hB3)).mono ?_;rintro e w4⟨rfl,hb4⟩;rw[HQ.out.1,HQ.out.2];have hB4:=hB3.trans (hb4.mono hB3.size)))
  | (go_at_call_of 140 (Value.agg #[.bool false,.slice Ar nr cr]);go_must (refine(vt _ false (X%Y) _ ⟨Ar,nr,cr,rfl,hrr.below hb4⟩ LR.out (ht.below hB4)).mono ?_;rintro e w5⟨rfl,hb5⟩;rw[HR.out.1,HR.out.2])))
  refine bodyPost_ret (v:=.tuple #[.string (S zq),.string (S zr),.int .i64 0]) ?res rfl ⟨rfl,hB4.trans (hb5.mono hB4.size)⟩
  case res=>simp[results,f150,go_sem,S]
 ·clear HC;have HQ:Hid (jn (sv true (X/Y))=itoa zq/\qH (sv true (X/Y))=0):=HQ;go_enter func150,ntmps150;go_wp2_with (first
  | (go_at_call 137;go_must (refine hbo.mono ?_;rintro e w1⟨u,v,rfl,⟨A1,n1,k1,rfl,hu⟩,⟨A2,n2,k2,rfl,hv⟩,hb1⟩;have hn2:0<n2:=(by rcases Az n2 with h|h;exact absurd (hv.zero.1 h) oo;exact h);have hn2':((n2:Int)==0)=false:=(by simp;omega)))
  | (go_at_call 139;obtain⟨m0,m1⟩:=jI w1 #[.bool false,.slice A1 n1 k1] #[.bool true,.slice A2 n2 k2] 149;have hb2:=qo w1 (.cells #[.bool false,.slice A1 n1 k1] 149) (.cells #[.bool true,.slice A2 n2 k2] 149);have hu2:=hu.below hb2;have hv2:=hv.below hb2;have hB2:=hb1.trans (hb2.mono hb1.size);generalize ((w1.alloc (.cells #[.bool false,.slice A1 n1 k1] 149)).alloc (.cells #[.bool true,.slice A2 n2 k2] 149))=V at *;go_must (refine(zF A1 A2 n1 k1 n2 k2 _ _ _ hu2 hv2 LX.out LY.out hY0).mono ?_;rintro e' w3⟨Aq,nq,cq,Ar,nr,cr,rfl,hqq,hrr,hb3⟩;have g0:=(hb3.block _ (Ag.1 m0).1).trans m0;have g1:=(hb3.block _ (Ag.1 m1).1).trans m1;obtain⟨d1,d2,_,_⟩:=zb g0;obtain⟨d3,d4,_,_⟩:=zb g1;have hB3:=hB2.trans (hb3.mono hB2.size)))
  | (go_at_call_of 140 (Value.agg #[.bool true,.slice Aq nq cq]);go_must (refine(vt _ true (X/Y) _ ⟨Aq,nq,cq,rfl,hqq⟩ LQ.out (ht.below hB3)).mono ?_;rintro e w4⟨rfl,hb4⟩;rw[HQ.out.1,HQ.out.2];have hB4:=hB3.trans (hb4.mono hB3.size)))
  | (go_at_call_of 140 (Value.agg #[.bool false,.slice Ar nr cr]);go_must (refine(vt _ false (X%Y) _ ⟨Ar,nr,cr,rfl,hrr.below hb4⟩ LR.out (ht.below hB4)).mono ?_;rintro e w5⟨rfl,hb5⟩;rw[HR.out.1,HR.out.2])))
  refine bodyPost_ret (v:=.tuple #[.string (S zq),.string (S zr),.int .i64 0]) ?res rfl ⟨rfl,hB4.trans (hb5.mono hB4.size)⟩
  case res=>simp[results,f150,go_sem,S]
 ·have HC2:=hid (HC.out rfl);clear HC;have HQ:Hid (jn (sv true (X/Y))=itoa zq/\qH (sv true (X/Y))=0):=HQ;go_enter func150,ntmps150;go_wp2_with (first
  | (go_at_call 137;go_must (refine hbo.mono ?_;rintro e w1⟨u,v,rfl,⟨A1,n1,k1,rfl,hu⟩,⟨A2,n2,k2,rfl,hv⟩,hb1⟩;have hn2:0<n2:=(by rcases Az n2 with h|h;exact absurd (hv.zero.1 h) oo;exact h);have hn2':((n2:Int)==0)=false:=(by simp;omega)))
  | (go_at_call 139;obtain⟨m0,m1⟩:=jI w1 #[.bool true,.slice A1 n1 k1] #[.bool false,.slice A2 n2 k2] 149;have hb2:=qo w1 (.cells #[.bool true,.slice A1 n1 k1] 149) (.cells #[.bool false,.slice A2 n2 k2] 149);have hu2:=hu.below hb2;have hv2:=hv.below hb2;have hB2:=hb1.trans (hb2.mono hb1.size);generalize ((w1.alloc (.cells #[.bool true,.slice A1 n1 k1] 149)).alloc (.cells #[.bool false,.slice A2 n2 k2] 149))=V at *;go_must (refine(zF A1 A2 n1 k1 n2 k2 _ _ _ hu2 hv2 LX.out LY.out hY0).mono ?_;rintro e' w3⟨Aq,nq,cq,Ar,nr,cr,rfl,hqq,hrr,hb3⟩;have g0:=(hb3.block _ (Ag.1 m0).1).trans m0;have g1:=(hb3.block _ (Ag.1 m1).1).trans m1;obtain⟨d1,d2,_,_⟩:=zb g0;obtain⟨d3,d4,_,_⟩:=zb g1;have hB3:=hB2.trans (hb3.mono hB2.size);obtain rfl:nr=0:=hrr.zero.2 HC2.out))
  | (go_at_call_of 140 (Value.agg #[.bool true,.slice Aq nq cq]);go_must (refine(vt _ true (X/Y) _ ⟨Aq,nq,cq,rfl,hqq⟩ LQ.out (ht.below hB3)).mono ?_;rintro e w4⟨rfl,hb4⟩;rw[HQ.out.1,HQ.out.2];have hB4:=hB3.trans (hb4.mono hB3.size)))
  | (go_at_call_of 140 (Value.agg #[.bool false,.slice Ar 0 cr]);go_must (refine(vt _ false (X%Y) _ ⟨Ar,0,cr,rfl,hrr.below hb4⟩ LR.out (ht.below hB4)).mono ?_;rintro e w5⟨rfl,hb5⟩;rw[HR.out.1,HR.out.2])))
  refine bodyPost_ret (v:=.tuple #[.string (S zq),.string (S zr),.int .i64 0]) ?res rfl ⟨rfl,hB4.trans (hb5.mono hB4.size)⟩
  case res=>simp[results,f150,go_sem,S]
 ·have HC2:=hid (HC.out rfl);clear HC;have HQ:Hid (jn (sv false (X/Y))=itoa zq/\qH (sv false (X/Y))=0):=HQ;go_enter func150,ntmps150;go_wp2_with (first
  | (go_at_call 137;go_must (refine hbo.mono ?_;rintro e w1⟨u,v,rfl,⟨A1,n1,k1,rfl,hu⟩,⟨A2,n2,k2,rfl,hv⟩,hb1⟩;have hn2:0<n2:=(by rcases Az n2 with h|h;exact absurd (hv.zero.1 h) oo;exact h);have hn2':((n2:Int)==0)=false:=(by simp;omega)))
  | (go_at_call 139;obtain⟨m0,m1⟩:=jI w1 #[.bool true,.slice A1 n1 k1] #[.bool true,.slice A2 n2 k2] 149;have hb2:=qo w1 (.cells #[.bool true,.slice A1 n1 k1] 149) (.cells #[.bool true,.slice A2 n2 k2] 149);have hu2:=hu.below hb2;have hv2:=hv.below hb2;have hB2:=hb1.trans (hb2.mono hb1.size);generalize ((w1.alloc (.cells #[.bool true,.slice A1 n1 k1] 149)).alloc (.cells #[.bool true,.slice A2 n2 k2] 149))=V at *;go_must (refine(zF A1 A2 n1 k1 n2 k2 _ _ _ hu2 hv2 LX.out LY.out hY0).mono ?_;rintro e' w3⟨Aq,nq,cq,Ar,nr,cr,rfl,hqq,hrr,hb3⟩;have g0:=(hb3.block _ (Ag.1 m0).1).trans m0;have g1:=(hb3.block _ (Ag.1 m1).1).trans m1;obtain⟨d1,d2,_,_⟩:=zb g0;obtain⟨d3,d4,_,_⟩:=zb g1;have hB3:=hB2.trans (hb3.mono hB2.size);obtain rfl:nr=0:=hrr.zero.2 HC2.out))
  | (go_at_call_of 140 (Value.agg #[.bool false,.slice Aq nq cq]);go_must (refine(vt _ false (X/Y) _ ⟨Aq,nq,cq,rfl,hqq⟩ LQ.out (ht.below hB3)).mono ?_;rintro e w4⟨rfl,hb4⟩;rw[HQ.out.1,HQ.out.2];have hB4:=hB3.trans (hb4.mono hB3.size)))
  | (go_at_call_of 140 (Value.agg #[.bool false,.slice Ar 0 cr]);go_must (refine(vt _ false (X%Y) _ ⟨Ar,0,cr,rfl,hrr.below hb4⟩ LR.out (ht.below hB4)).mono ?_;rintro e w5⟨rfl,hb5⟩;rw[HR.out.1,HR.out.2])))
  refine bodyPost_ret (v:=.tuple #[.string (S zq),.string (S zr),.int .i64 0]) ?res rfl ⟨rfl,hB4.trans (hb5.mono hB4.size)⟩
  case res=>simp[results,f150,go_sem,S]
theorem ybS(a b:ByteArray)(dy:Bool)(X Y:Nat)(w:World)(hbo:Calls prog 137 #[.string a,.string b] w (kbL true dy X Y w))(ht:Tab w)
  (hX:X<10000^250) (hY:Y<10000^250) (hXY:X/Y+1<10000^250) (hY0:0<Y) (hc:X%Y≠0) (zq zr:Int)
  (hq:jn (sv (true != dy) (X/Y+1))=itoa zq/\qH (sv (true != dy) (X/Y+1))=0) (hr:jn (sv false (Y-X%Y))=itoa zr/\qH (sv false (Y-X%Y))=0) :
  Calls prog 150 #[.string a,.string b] w (yaK zq zr w):=by
 have LX:=hid hX;have LY:=hid hY;have LQ:=hid hXY;have hlt:=BA X hY0;have LR:Hid (Y-X%Y<10000^250):=hid (AS (Nat.sub_le _ _) hY);have LQM:Hid (Mod (X/Y)):=hid (vp (Nat.lt_of_succ_lt hXY) oo);have LOM:Hid (Mod 1):=hid (vp (K:=1) dd oo);have LYM:Hid (Mod Y):=hid (vp hY oo);have LRM:Hid (Mod (X%Y)):=hid (vp (BY hlt hY) oo);have LYR:Hid (X%Y<=Y):=hid (Ch hlt);have HQ:=hid hq;have HR:=hid hr;have HC:=hid hc;clear hX hY hXY hq hr hc hlt
 cases dy
 ·have HQ:Hid (jn (sv true (X/Y+1))=itoa zq/\qH (sv true (X/Y+1))=0):=HQ;go_enter func150,ntmps150;go_wp2_with (first
  | (go_at_call 137;go_must (refine hbo.mono ?_;rintro e w1⟨u,v,rfl,⟨A1,n1,k1,rfl,hu⟩,⟨A2,n2,k2,rfl,hv⟩,hb1⟩;have hn2:0<n2:=(by rcases Az n2 with h|h;exact absurd (hv.zero.1 h) oo;exact h);have hn2':((n2:Int)==0)=false:=(by simp;omega)))
  | (go_at_call 139;obtain⟨m0,m1⟩:=jI w1 #[.bool true,.slice A1 n1 k1] #[.bool false,.slice A2 n2 k2] 149;have hb2:=qo w1 (.cells #[.bool true,.slice A1 n1 k1] 149) (.cells #[.bool false,.slice A2 n2 k2] 149);have hu2:=hu.below hb2;have hv2:=hv.below hb2;have hB2:=hb1.trans (hb2.mono hb1.size);generalize ((w1.alloc (.cells #[.bool true,.slice A1 n1 k1] 149)).alloc (.cells #[.bool false,.slice A2 n2 k2] 149))=V at *;go_must (refine(zF A1 A2 n1 k1 n2 k2 _ _ _ hu2 hv2 LX.out LY.out hY0).mono ?_;rintro e' w3⟨Aq,nq,cq,Ar,nr,cr,rfl,hqq,hrr,hb3⟩;have g0:=(hb3.block _ (Ag.1 m0).1).trans m0;have g1:=(hb3.block _ (Ag.1 m1).1).trans m1;obtain⟨d1,d2,_,_⟩:=zb g0;obtain⟨d3,d4,_,_⟩:=zb g1;have hB3:=hB2.trans (hb3.mono hB2.size);have hY3:=hv2.below hb3;have hnr:0<nr:=(by rcases Az nr with h|h;exact absurd (hrr.zero.1 h) HC.out;exact h))))
  go_region_held3 (fun U=>U.cell? ⟨w1.heap.size+1,1,none⟩=some (.slice A2 n2 k2)) (first|exact d4|exact e4|exact f4|exact g4) (first
   | (go_at_call 186;refine(qb1 _).mono ?_;rintro e w4⟨Ao,no,co,rfl,hone,hb4'⟩;have hb4:=qb hb4';have i1:=(hb4.block _ (Ag.1 g1).1).trans g1;have i0:=(hb4.block _ (Ag.1 g0).1).trans g0;obtain⟨_,e4,_,_⟩:=zb i1;have hB4:=hB3.trans (hb4.mono hB3.size))
   | (go_at_call 185;refine(jP Aq Ao nq cq no co _ _ _ (by exact hqq.below hb4) (by exact hone) LQM.out LOM.out).mono ?_;rintro e w5⟨As,ns,cs,rfl,hss,hb5⟩;have j1:=(hb5.block _ (Ag.1 i1).1).trans i1;have j0:=(hb5.block _ (Ag.1 i0).1).trans i0;obtain⟨_,f4,_,_⟩:=zb j1;have hB5:=hB4.trans (hb5.mono hB4.size))
   | (go_at_call 180;refine(vI A2 Ar n2 k2 nr cr _ _ _ (by exact(hY3.below hb4).below hb5) (by exact(hrr.below hb4).below hb5) LYM.out LRM.out LYR.out).mono ?_;rintro e w6⟨Ad,nd,cd,rfl,hdd,hb6⟩;have q1:=(hb6.block _ (Ag.1 j1).1).trans j1;have q0:=(hb6.block _ (Ag.1 j0).1).trans j0;obtain⟨q3,q4,_,_⟩:=zb q1;obtain⟨q5,q6,_,_⟩:=zb q0;have g4:=q4;have hB6:=hB5.trans (hb6.mono hB5.size)))
  go_wp2_with (first
  | (go_at_call_of 140 (Value.agg #[.bool true,.slice As ns cs]);go_must (refine(vt _ true (X/Y+1) _ ⟨As,ns,cs,rfl,hss.below hb6⟩ LQ.out (ht.below hB6)).mono ?_;rintro e w7⟨rfl,hb7⟩;rw[HQ.out.1,HQ.out.2];have hB7:=hB6.trans (hb7.mono hB6.size)))
  | (go_at_call_of 140 (Value.agg #[.bool false,.slice Ad nd cd]);go_must (refine(vt _ false (Y-X%Y) _ ⟨Ad,nd,cd,rfl,hdd.below hb7⟩ LR.out (ht.below hB7)).mono ?_;rintro e w8⟨rfl,hb8⟩;rw[HR.out.1,HR.out.2])))
  refine bodyPost_ret (v:=.tuple #[.string (S zq),.string (S zr),.int .i64 0]) ?res rfl ⟨rfl,hB7.trans (hb8.mono hB7.size)⟩
  case res=>simp[results,f150,go_sem,S]
 ·have HQ:Hid (jn (sv false (X/Y+1))=itoa zq/\qH (sv false (X/Y+1))=0):=HQ;go_enter func150,ntmps150;go_wp2_with (first
  | (go_at_call 137;go_must (refine hbo.mono ?_;rintro e w1⟨u,v,rfl,⟨A1,n1,k1,rfl,hu⟩,⟨A2,n2,k2,rfl,hv⟩,hb1⟩;have hn2:0<n2:=(by rcases Az n2 with h|h;exact absurd (hv.zero.1 h) oo;exact h);have hn2':((n2:Int)==0)=false:=(by simp;omega)))
  | (go_at_call 139;obtain⟨m0,m1⟩:=jI w1 #[.bool true,.slice A1 n1 k1] #[.bool true,.slice A2 n2 k2] 149;have hb2:=qo w1 (.cells #[.bool true,.slice A1 n1 k1] 149) (.cells #[.bool true,.slice A2 n2 k2] 149);have hu2:=hu.below hb2;have hv2:=hv.below hb2;have hB2:=hb1.trans (hb2.mono hb1.size);generalize ((w1.alloc (.cells #[.bool true,.slice A1 n1 k1] 149)).alloc (.cells #[.bool true,.slice A2 n2 k2] 149))=V at *;go_must (refine(zF A1 A2 n1 k1 n2 k2 _ _ _ hu2 hv2 LX.out LY.out hY0).mono ?_;rintro e' w3⟨Aq,nq,cq,Ar,nr,cr,rfl,hqq,hrr,hb3⟩;have g0:=(hb3.block _ (Ag.1 m0).1).trans m0;have g1:=(hb3.block _ (Ag.1 m1).1).trans m1;obtain⟨d1,d2,_,_⟩:=zb g0;obtain⟨d3,d4,_,_⟩:=zb g1;have hB3:=hB2.trans (hb3.mono hB2.size);have hY3:=hv2.below hb3;have hnr:0<nr:=(by rcases Az nr with h|h;exact absurd (hrr.zero.1 h) HC.out;exact h))))
  go_region_held3 (fun U=>U.cell? ⟨w1.heap.size+1,1,none⟩=some (.slice A2 n2 k2)) (first|exact d4|exact e4|exact f4|exact g4) (first
   | (go_at_call 186;refine(qb1 _).mono ?_;rintro e w4⟨Ao,no,co,rfl,hone,hb4'⟩;have hb4:=qb hb4';have i1:=(hb4.block _ (Ag.1 g1).1).trans g1;have i0:=(hb4.block _ (Ag.1 g0).1).trans g0;obtain⟨_,e4,_,_⟩:=zb i1;have hB4:=hB3.trans (hb4.mono hB3.size))
   | (go_at_call 185;refine(jP Aq Ao nq cq no co _ _ _ (by exact hqq.below hb4) (by exact hone) LQM.out LOM.out).mono ?_;rintro e w5⟨As,ns,cs,rfl,hss,hb5⟩;have j1:=(hb5.block _ (Ag.1 i1).1).trans i1;have j0:=(hb5.block _ (Ag.1 i0).1).trans i0;obtain⟨_,f4,_,_⟩:=zb j1;have hB5:=hB4.trans (hb5.mono hB4.size))
   | (go_at_call 180;refine(vI A2 Ar n2 k2 nr cr _ _ _ (by exact(hY3.below hb4).below hb5) (by exact(hrr.below hb4).below hb5) LYM.out LRM.out LYR.out).mono ?_;rintro e w6⟨Ad,nd,cd,rfl,hdd,hb6⟩;have q1:=(hb6.block _ (Ag.1 j1).1).trans j1;have q0:=(hb6.block _ (Ag.1 j0).1).trans j0;obtain⟨q3,q4,_,_⟩:=zb q1;obtain⟨q5,q6,_,_⟩:=zb q0;have g4:=q4;have hB6:=hB5.trans (hb6.mono hB5.size)))
  go_wp2_with (first
  | (go_at_call_of 140 (Value.agg #[.bool false,.slice As ns cs]);go_must (refine(vt _ false (X/Y+1) _ ⟨As,ns,cs,rfl,hss.below hb6⟩ LQ.out (ht.below hB6)).mono ?_;rintro e w7⟨rfl,hb7⟩;rw[HQ.out.1,HQ.out.2];have hB7:=hB6.trans (hb7.mono hB6.size)))
  | (go_at_call_of 140 (Value.agg #[.bool false,.slice Ad nd cd]);go_must (refine(vt _ false (Y-X%Y) _ ⟨Ad,nd,cd,rfl,hdd.below hb7⟩ LR.out (ht.below hB7)).mono ?_;rintro e w8⟨rfl,hb8⟩;rw[HR.out.1,HR.out.2])))
  refine bodyPost_ret (v:=.tuple #[.string (S zq),.string (S zr),.int .i64 0]) ?res rfl ⟨rfl,hB7.trans (hb8.mono hB7.size)⟩
  case res=>simp[results,f150,go_sem,S]
theorem jao{neg:Bool}{q:Nat}{z:Int}(h:sv neg q=z)(hf:Fits z):jn (sv neg q)=itoa z/\qH (sv neg q)=0:=by
 rw[h];exact⟨by unfold jn;rw[if_pos hf],by unfold qH;rw[if_pos hf]⟩
theorem zcX(x y:Int)(q:Nat):sv (decide (x<0) != decide (y<0)) q=if (x<0↔y<0) then(q:Int) else -(q:Int):=by
 by_cases h1:x<0<;>by_cases h2:y<0<;>simp[sv,h1,h2]
theorem kcP(a b:ByteArray)(x y:Int)(w:World)(ht:Tab w)(ha:a.data.toList=itoa x)(hb:b.data.toList=itoa y)(hx:Fits x)(hy:Fits y)(hy0:y≠0)(hsa:Str a)(hsb:Str b) :
  Calls prog 150 #[.string a,.string b] w (yaK (x/y) (x%y) w):=by
 obtain⟨lx,ly,_⟩:=ybu hx hy;obtain⟨fq,fr⟩:=ybr hx hy hy0;have hY:0<y.natAbs:=oo
 have hbo:Calls prog 137 #[.string a,.string b] w (kbL (decide (x<0)) (decide (y<0)) x.natAbs y.natAbs w):=kY a b x y w ha hb hx hy hsa hsb;by_cases hc:0<=x\/x.natAbs%y.natAbs=0
 ·obtain⟨h1,h2⟩:=qa4 x y hy0 hc;refine kbS a b (decide (x<0)) (decide (y<0)) _ _ w hbo ht lx ly (AS (BQ _ _) lx) (BY (BA _ hY) ly) hY ?_ _ _ (jao (by rw[zcX];exact h1) fq) (jao (by simpa[sv]using h2) fr);rcases hc with h|h
  ·exact .inl (by simpa using h)
  ·exact .inr h
 ·have hx0:x<0:=oo
  have hR:x.natAbs%y.natAbs≠0:=fun e=>hc (.inr e)
  obtain⟨h1,h2⟩:=za4 x y hy0 hx0 hR;rw[decide_eq_true hx0]at hbo;have hX1:x.natAbs/y.natAbs+1<10000^250:=by
   have h3:x.natAbs/y.natAbs<=x.natAbs:=BQ _ _;have h4:x.natAbs<10^200:=hx;have h5:(10:Nat)^200+1<10000^250:=by decide +kernel
   generalize (10:Nat)^200=T at *;generalize (10000:Nat)^250=U at *;omega
  exact ybS a b (decide (y<0)) _ _ w hbo ht lx ly hX1 hY hR _ _ (jao (by have:=zcX x y (x.natAbs/y.natAbs+1);rw[decide_eq_true hx0]at this;rw[this];exact h1) fq) (jao (by simpa[sv]using h2) fr)
theorem yE:(⟨#[48]⟩:ByteArray).data.toList=itoa 0:=by rw[show(0:Int)=((0:Nat):Int) from rfl,vE,jm]
theorem jbx:Str (⟨#[48]⟩:ByteArray):=by show(1:Nat)<=_;omega
theorem qy:Fits 0:=by unfold Fits;decide
theorem qa6(n K:Nat)(hK:K=(n+1)/2)(hn:n<=1000000)(i:TypeInfo)(hi:prog.info? 3=some i)(hz:i.zero=some (.int .i64 0))(hs:i.size=1)(hb:i.bytes=8) :
  ∀ W:World,(Instr.makeSlice 147 (.int .i64 (((n:Int)+1)/2)) (.int .i64 (((n:Int)+1)/2))).run prog W=.ok (.slice (some ⟨W.heap.size,0,none⟩) K K) (W.alloc (.cells (kq (List.replicate K 0)).toArray 3)):=by
 intro W;rw[show((n:Int)+1)/2=(K:Int) by omega];exact vQ (P:=prog) 147 3 i underlying147 hi hz hs hb K oo W
theorem ya7(V:World)(K b:Nat)(hK:K<=1000)(hb:V.heap.size=b):(V.alloc (.cells (kq (List.replicate K 0)).toArray 3)).ownsRow V.heap.size 3 1 (.slice (some ⟨b,0,none⟩) K K) K (kq (List.replicate K 0)):=by
 subst hb;have:=World.ownsRow_lit (base:=V.heap.size) (e:=3) (size:=1) V (kq (List.replicate K 0)).toArray K (Am _) (by unfold maxLen;omega) (by simp[kq]);simpa using this
theorem yaj(W:World)(v:Value)(t:TypeId)(b:Nat)(hb:b=W.heap.size):∀ j u,[v][j]? = some u->(W.alloc (.cells #[v] t)).cell? ((⟨b,0,none⟩:Addr).add j)=some u:=by
 subst hb;exact cell_one_new W v t
theorem kbY(w:World):IsNum (w.alloc (.cells #[.int .i64 2] 3)) (some ⟨w.heap.size,0,none⟩) 1 1 2:=by
 have hlit:=World.ownsRow_lit (base:=w.heap.size) (e:=3) (size:=1) w #[.int .i64 2] 1 (Am _) (by unfold maxLen;omega) rfl;exact⟨[2],BJ hlit,⟨Small.mk dd qJ,by decide⟩,by simp[val],Am _⟩
theorem ycv:2<10000^250:=by decide +kernel
theorem yb0(X R:Nat)(hR:R<10000^200)(hX:Fits X):R<10000^250/\X/R<10000^250/\R+X/R<10000^250:=by
 have h1:(10:Nat)^200+10000^200<=10000^250:=by decide +kernel
 have h2:X/R<=X:=BQ _ _;unfold Fits at hX;rw[Bo]at hX;generalize (10:Nat)^200=T at *;generalize (10000:Nat)^200=T2 at *;generalize (10000:Nat)^250=U at *;omega
theorem vbE{X N:Nat}(hX:0<X)(h:X<(N+1)*(N+1)):0<N:=by
 rcases Az N with e|e
 ·subst e;omega
 ·exact e
theorem kb5{X R:Nat}(hX:Fits X)(h:R*R<=X):jn (sv false R)=itoa R/\qH (sv false R)=0:=by
 refine jao (by simp[sv]) ?_;unfold Fits at *;rw[Bo]at *;have:R<=R*R:=Nat.le_mul_self R;omega
def jbM(X:Nat)(w:World)(e:Ending)(w':World):Prop:=∃ r:Nat,e=.returned (.tuple #[.string (S r),.int .i64 0])/\IsRoot X r/\Aa w w'
theorem yb6{w:World}{base k c:Nat}{A:En}(h:w.ownsRow base 3 1 (.slice A (k+1) c) (k+1) (kq (List.replicate k 0)++[.int .i64 1])):IsNum w A (k+1) c (10000^k):=by
 have e:kq (List.replicate k 0)++[.int .i64 1]=kq (List.replicate k 0++[1]):=by rw[kag];rfl
 rw[e]at h;refine⟨_,BJ h,⟨?_,by simp⟩,?_,qS h⟩
 ·refine Small.append (fun d hd => ?_) (Small.mk dd qJ);obtain⟨_,rfl⟩:=Df.1 hd;decide
 ·rw[qad,Do,Nat.one_mul];have:∀ k,val (List.replicate k 0)=0:=by
   intro k
   induction k with
   | zero=>rfl
   | succ k ih=>rw[DA];simp[val,ih]
  rw[this,Bj]
theorem vcp(a:ByteArray)(X:Nat)(w:World)(ht:Tab w)(ha:a.data.toList=itoa X)(hx:Fits X)(hX0:0<X)(hsa:Str a) :
  Calls prog 169 #[.string a] w (jbM X w):=by
 obtain⟨lx,_,_⟩:=ybu hx hx;rw[Bo]at lx;have LX:=hid lx;clear lx;have hbo:=kY a ⟨#[48]⟩ X 0 w ha yE hx qy hsa jbx;rw[decide_eq_false (show ¬ (X:Int)<0 by omega),Bo]at hbo;obtain⟨i0,hi,hz0,hz1,hz2⟩:=info_parts kE;go_enter func169,ntmps169;go_wp2_with (first
  | (go_at_call 137;go_must (refine hbo.mono ?_;rintro e w1⟨u,v,rfl,⟨A1,n1,k1,rfl,hu⟩,⟨A2,n2,k2,rfl,hv⟩,hb1⟩;have hn1:=hu.le LX.out;have hn0:0<n1:=(by rcases Az n1 with h|h;exact absurd (hu.zero.1 h) oo;exact h);obtain⟨K,hK⟩:∃ K,K=(n1+1)/2:=⟨_,rfl⟩;have hmk:=qa6 n1 K hK oo i0 hi hz0 hz1 hz2;have HK:=hid hK;have hK1:K<=1000:=oo;clear hK))
  | (at_builtin;obtain⟨m0,m1⟩:=jI w1 #[.bool false,.slice A1 n1 k1] #[.bool false,.slice A2 n2 k2] 149;have hb2:=qo w1 (.cells #[.bool false,.slice A1 n1 k1] 149) (.cells #[.bool false,.slice A2 n2 k2] 149);have hu2:=hu.below hb2;have hB2:=hb1.trans (hb2.mono hb1.size);have hVs:((w1.alloc (.cells #[.bool false,.slice A1 n1 k1] 149)).alloc (.cells #[.bool false,.slice A2 n2 k2] 149)).heap.size=w1.heap.size+1+1:=(by simp);have HVs:=hid hVs;clear hVs;generalize ((w1.alloc (.cells #[.bool false,.slice A1 n1 k1] 149)).alloc (.cells #[.bool false,.slice A2 n2 k2] 149))=V at *;refine wpList_append_own _ rfl (.tmp 29) (.tmp 30) 147 rfl V.heap.size 3 i0 (.int .i64 0) 1 8 underlying147 hi hz0 hz1 hz2 rfl dd (.slice (some ⟨w1.heap.size+1+1,0,none⟩) K K) K _ rfl ((ya7 V K _ hK1 HVs.out).alloc _) ⟨w1.heap.size+1+1+1,0,none⟩ 1 1 [.int .i64 1] rfl rfl (yaj _ _ _ _ (by simp[HVs.out])) (by simp[Value.oneCell']) (by unfold maxLen;omega) oo (by simp;omega) ?_;intro v' w3 hown3 hgrow3 _;obtain⟨A3,c3,rfl⟩:=zh hown3))
 have hs3:IsNum w3 A3 (K+1) c3 (10000^K):=yb6 hown3;have hb3:Below V.heap.size V w3:=(((Au _ _).alloc (Am _) _).alloc (by simp) _).grown hgrow3 (by simp;omega) (by simp[Value.ownBlock,HVs.out]);have hstart:Hid (X<(10000^K+1)*(10000^K+1)):=hid (va6 X K (by
  obtain⟨l,h1,h2,h3,_⟩:=hu;have h4:=qb9 h2.1;rw[h3,<- h1.len]at h4;have h5:(10000:Nat)^n1<=10000^(2*K):=Bm dd (by have:=HK.out;omega);exact AG h4 h5))
 have hpow:Hid ((10000:Nat)^K<10000^200):=hid (Nat.pow_lt_pow_right dd (by have:=HK.out;omega));have hpos:Hid (0<(10000:Nat)^K):=hid (Cy dd);clear hown3 hgrow3 hmk;go_loopw[7] (fun v wr=>∃(A:En) (n c R:Nat),v=.slice A n c/\IsNum wr A n c R/\Hid (X<(R+1)*(R+1))/\Hid (R<10000^200)/\Hid (0<R)/\Below V.heap.size V wr)
  (fun v wr=>jcn wr v)
 case atStart=>exact⟨A3,K+1,c3,10000^K,rfl,hs3,hstart,hpow,hpos,hb3⟩
 case round =>
  obtain⟨A,n,c,R,rfl,hR,hab,hlt,hR0,hBr⟩:=hrel;have g0:=(hBr.block _ (Ag.1 m0).1).trans m0;obtain⟨c1,c2,_,_⟩:=zb g0;have hur:=hu2.below hBr;obtain⟨ltR,ltQ,ltS⟩:=yb0 X R hlt.out hx;have LTR:=hid ltR;have LTS:=hid ltS;have mR:Hid (Mod R):=hid (vp ltR oo);have mQ:Hid (Mod (X/R)):=hid (vp ltQ oo);obtain⟨N,hN⟩:∃ N,N=(R+X/R)/2:=⟨_,rfl⟩
  have hN1:N<10000^250:=by rw[hN];exact AS (BQ _ _) ltS
  have mN:Hid (Mod N):=hid (vp hN1 oo);have HN:=hid hN;clear ltR ltQ ltS hN hN1;by_cases hstop:R<=N
  ·have hcz:0<=kp (N:Int) (R:Int):=by unfold kp;split<;>(try split)<;>omega
   have HT:=hid (kb5 hx (vaF X R (by rw[<- HN.out];exact hstop)));have HS:Hid (IsRoot X R):=hid ⟨vaF X R (by rw[<- HN.out];exact hstop),hab.out⟩;clear hstop;go_wp2_with (go_at_call_of 139 (Value.slice A1 n1 k1);go_must (refine(zF A1 A n1 k1 n c X R _ hur hR LX.out LTR.out hR0.out).mono ?_;rintro e w4⟨Aq,nq,cq,Ar,nr,cr,rfl,hqq,_,hb4⟩));go_wp2_with (go_at_call 185;go_must (refine(jP A Aq n c nq cq _ _ _ (hR.below hb4) hqq mR.out mQ.out).mono ?_;rintro e w5⟨As,ns,cs,rfl,hss,hb5⟩));go_wp2_with (go_at_call_of 139 (Value.slice As ns cs);go_must (refine(zF As (some ⟨w5.heap.size,0,none⟩) ns cs 1 1 (R+X/R) 2 _ (hss.alloc _) (kbY w5) LTS.out ycv dd).mono ?_;rintro e w6⟨An,nn,cn,Ax,nx,cx,rfl,hnn,_,hb6⟩;rw[<- HN.out]at hnn;have hb56:Below w5.heap.size w5 w6:=((Au _ w5).alloc (Am _) _).trans (hb6.mono (by simp));have hR6:=((hR.below hb4).below hb5).below hb56));go_wp2_with (go_at_call 138;go_must (refine(jw An A nn cn n c N R _ hnn hR6 mN.out mR.out).mono ?_;rintro e w7⟨rfl,hb7⟩;have hB4:=hBr.trans (hb4.mono hBr.size);have hB5:=hB4.trans (hb5.mono hB4.size);have hB6:=hB5.trans (hb56.mono hB5.size);have hB7:=hB6.trans (hb7.mono hB6.size);have hBw7:=hB2.trans (hB7.mono hB2.size)));go_wp2_with (go_at_call 140;go_must (refine(vt _ false R _ ⟨A,n,c,rfl,(hR6.below hb7)⟩ LTR.out (ht.below hBw7)).mono ?_;rintro e w8⟨rfl,hb8⟩;rw[HT.out.1,HT.out.2]))
   refine bodyPost_ret (v:=.tuple #[.string (S R),.int .i64 0]) ?res rfl ⟨R,rfl,HS.out,hBw7.trans (hb8.mono hBw7.size)⟩
   case res=>simp[results,f169,go_sem,S]
  ·have hcz:kp (N:Int) (R:Int)<0:=by unfold kp;split<;>(try split)<;>omega
   have hNR:Hid (N<R):=hid oo;have hN0:Hid (0<N):=hid (vbE hX0 (by have:=jav X R hR0.out;rw[<- HN.out]at this;exact this));clear hstop;go_wp2_with (go_at_call_of 139 (Value.slice A1 n1 k1);go_must (refine(zF A1 A n1 k1 n c X R _ hur hR LX.out LTR.out hR0.out).mono ?_;rintro e w4⟨Aq,nq,cq,Ar,nr,cr,rfl,hqq,_,hb4⟩));go_wp2_with (go_at_call 185;go_must (refine(jP A Aq n c nq cq _ _ _ (hR.below hb4) hqq mR.out mQ.out).mono ?_;rintro e w5⟨As,ns,cs,rfl,hss,hb5⟩));go_wp2_with (go_at_call_of 139 (Value.slice As ns cs);go_must (refine(zF As (some ⟨w5.heap.size,0,none⟩) ns cs 1 1 (R+X/R) 2 _ (hss.alloc _) (kbY w5) LTS.out ycv dd).mono ?_;rintro e w6⟨An,nn,cn,Ax,nx,cx,rfl,hnn,_,hb6⟩;rw[<- HN.out]at hnn;have hb56:Below w5.heap.size w5 w6:=((Au _ w5).alloc (Am _) _).trans (hb6.mono (by simp));have hR6:=((hR.below hb4).below hb5).below hb56));go_wp2_with (go_at_call 138;go_must (refine(jw An A nn cn n c N R _ hnn hR6 mN.out mR.out).mono ?_;rintro e w7⟨rfl,hb7⟩;have hB4:=hBr.trans (hb4.mono hBr.size);have hB5:=hB4.trans (hb5.mono hB4.size);have hB6:=hB5.trans (hb56.mono hB5.size);have hB7:=hB6.trans (hb7.mono hB6.size);have hBw7:=hB2.trans (hB7.mono hB2.size)));go_roundw
   case rel=>exact⟨An,nn,cn,N,rfl,hnn.below hb7,hid (by have:=jav X R hR0.out;rw[<- HN.out]at this;exact this),hid (BY hNR.out hlt.out),hN0,hB7⟩
   case measure=>rw[vay (hnn.below hb7),vay hR];exact hNR.out
theorem kbM:S 0=⟨#[48]⟩:=by
 unfold S;rw[<- yE]
theorem yb5(a:ByteArray)(w:World)(ha:a.data.toList=itoa 0)(hsa:Str a) :
  Calls prog 169 #[.string a] w (jbM 0 w):=by
 have hbo:=kY a ⟨#[48]⟩ 0 0 w ha yE qy qy hsa jbx;obtain⟨i0,hi,hz0,hz1,hz2⟩:=info_parts kE;have hmk:∀ W:World,(Instr.makeSlice 147 (.int .i64 0) (.int .i64 0)).run prog W=.ok (.slice (some ⟨W.heap.size,0,none⟩) 0 0) (W.alloc (.cells #[] 3)):=fun W=>qa6 0 0 rfl oo i0 hi hz0 hz1 hz2 W
 go_enter func169,ntmps169;go_wp2_with (first
  | (go_at_call 137;go_must (refine hbo.mono ?_;rintro e w1⟨u,v,rfl,⟨A1,n1,k1,rfl,hu⟩,⟨A2,n2,k2,rfl,hv⟩,hb1⟩;obtain rfl:n1=0:=hu.zero.2 rfl))
  | (at_builtin;obtain⟨m0,m1⟩:=jI w1 #[.bool false,.slice A1 0 k1] #[.bool false,.slice A2 n2 k2] 149;have hb2:=qo w1 (.cells #[.bool false,.slice A1 0 k1] 149) (.cells #[.bool false,.slice A2 n2 k2] 149);have hB2:=hb1.trans (hb2.mono hb1.size);have hVs:((w1.alloc (.cells #[.bool false,.slice A1 0 k1] 149)).alloc (.cells #[.bool false,.slice A2 n2 k2] 149)).heap.size=w1.heap.size+1+1:=(by simp);have HVs:=hid hVs;clear hVs;generalize ((w1.alloc (.cells #[.bool false,.slice A1 0 k1] 149)).alloc (.cells #[.bool false,.slice A2 n2 k2] 149))=V at *;refine wpList_append_own _ rfl (.tmp 29) (.tmp 30) 147 rfl V.heap.size 3 i0 (.int .i64 0) 1 8 underlying147 hi hz0 hz1 hz2 rfl dd (.slice (some ⟨w1.heap.size+1+1,0,none⟩) 0 0) 0 _ rfl ((ya7 V 0 _ oo HVs.out).alloc _) ⟨w1.heap.size+1+1+1,0,none⟩ 1 1 [.int .i64 1] rfl rfl (yaj _ _ _ _ (by simp[HVs.out])) (by simp[Value.oneCell']) (by unfold maxLen;omega) oo (by simp;omega) ?_;intro v' w3 hown3 hgrow3 _;obtain⟨A3,c3,rfl⟩:=zh hown3;have hb3:Below V.heap.size V w3:=(((Au _ _).alloc (Am _) _).alloc (by simp) _).grown hgrow3 (by simp;omega) (by simp[Value.ownBlock,HVs.out]);have g0:=(hb3.block _ (Ag.1 m0).1).trans m0;obtain⟨c1,c2,_,_⟩:=zb g0))
 go_loopw[7] (fun _ wr=>wr=w3) (fun _ _=>0)
 case atStart=>rfl
 case round =>
  subst hrel;go_wp2;refine bodyPost_ret (v:=.tuple #[.string (S 0),.int .i64 0]) ?res rfl ⟨0,rfl,⟨oo,oo⟩,hB2.trans (hb3.mono hB2.size)⟩
  case res=>simp[results,f169,go_sem,kbM]
structure Env(w:World):Prop where
 tab:Tab w
 syn:∃ te pe,w.cell? ⟨6,0,none⟩=some (.iface te pe)
 rng:∃ te pe,w.cell? ⟨7,0,none⟩=some (.iface te pe)
theorem Env.below{w w':World}(h:Env w)(hb:Aa w w'):Env w':=by
 obtain⟨h1,⟨t1,p1,h2⟩,⟨t2,p2,h3⟩⟩:=h;exact⟨h1.below hb,⟨t1,p1,(hb.cell (World.block_lt_of_cell? _ _ h2)).trans h2⟩,⟨t2,p2,(hb.cell (World.block_lt_of_cell? _ _ h3)).trans h3⟩⟩
theorem jbt{a:ByteArray}{z:Int}(h:ks a.data.toList=true)(hz:zOf a.data.toList=z):Is a z:=by
 obtain⟨y,_,e⟩:=zai _ h;rw[e,yaz]at hz;subst hz;exact e
theorem Is.str{a:ByteArray}{z:Int}(h:Is a z)(hf:Fits z):Str a:=by
 have:=vcs hf;rw[h.eq];unfold Str;omega
theorem Is.valid{a:ByteArray}{z:Int}(h:Is a z)(hf:Fits z):ks a.data.toList=true:=by
 unfold Is at h;rw[h];exact qai z hf
def vX(z:Int)(w:World)(e:Ending)(w':World):Prop:=e=.returned (.tuple #[.string (S z),.int .i64 0])/\Aa w w'
theorem jJ{z:Int}(h:Fits z):(⟨(jn z).toArray⟩:ByteArray)=S z:=by unfold jn S;rw[if_pos h]
theorem qQ{z:Int}(h:Fits z):qH z=0:=by unfold qH;rw[if_pos h]
theorem vba{z:Int}(h:¬ Fits z):jn z=[]:=by unfold jn;rw[if_neg h]
theorem yaY{z:Int}(h:¬ Fits z):qH z=30:=by unfold qH;rw[if_neg h]
theorem jdb{a b:ByteArray}{x y v:Int}(ha:Is a x)(hb:Is b y)(hv:Hid (x+y=v))(hx:Fits x)(hy:Fits y)(hf:Fits v)(w:World)(he:Env w) :
  Calls prog 132 #[.string a,.string b] w (vX v w):=by
 have:=qct a b x y w he.tab ha hb hx hy (ha.str hx) (hb.str hy);rw[hv.out,jJ hf,qQ hf]at this;exact this
theorem qda{a b:ByteArray}{x y v:Int}(ha:Is a x)(hb:Is b y)(hv:Hid (x-y=v))(hx:Fits x)(hy:Fits y)(hf:Fits v)(w:World)(he:Env w) :
  Calls prog 184 #[.string a,.string b] w (vX v w):=by
 have:=qcv a b x y w he.tab ha hb hx hy (ha.str hx) (hb.str hy);rw[hv.out,jJ hf,qQ hf]at this;exact this
theorem qcu{a b:ByteArray}{x y v:Int}(ha:Is a x)(hb:Is b y)(hv:Hid (x*y=v))(hx:Fits x)(hy:Fits y)(hf:Fits v)(w:World)(he:Env w) :
  Calls prog 168 #[.string a,.string b] w (vX v w):=by
 have:=jcu a b x y w he.tab ha hb hx hy (ha.str hx) (hb.str hy);rw[hv.out,jJ hf,qQ hf]at this;exact this
theorem ycJ{a b:ByteArray}{x y q r:Int}(ha:Is a x)(hb:Is b y)(hq:Hid (x/y=q))(hr:Hid (x%y=r))(hx:Fits x)(hy:Fits y)(hy0:Hid (y≠0))(w:World)(he:Env w) :
  Calls prog 150 #[.string a,.string b] w (yaK q r w):=by
 have:=kcP a b x y w he.tab ha hb hx hy hy0.out (ha.str hx) (hb.str hy);rw[hq.out,hr.out]at this;exact this
theorem qcZ{a b:ByteArray}{x y v:Int}(ha:Is a x)(hb:Is b y)(hv:Hid (((x.natAbs.gcd y.natAbs:Nat):Int)=v))(hx:Fits x)(hy:Fits y)(w:World)(he:Env w) :
  Calls prog 90 #[.string a,.string b] w (vX v w):=by
 have:=kcS a b x y w he.tab ha hb hx hy (ha.str hx) (hb.str hy);rw[hv.out]at this;exact this
theorem jcG{a:ByteArray}{x r:Int}(ha:Is a x)(hr:Hid (0<=x/\0<=r/\IsRoot x.natAbs r.natAbs))(hx:Fits x)(w:World)(he:Env w) :
  Calls prog 169 #[.string a] w (vX r w):=by
 obtain⟨h1,h2,h3⟩:=hr.out;obtain⟨X,rfl⟩:∃ X:Nat,x=X:=⟨x.natAbs,oo⟩
 obtain⟨R,rfl⟩:∃ R:Nat,r=R:=⟨r.natAbs,oo⟩
 rw[Bo,Bo]at h3;have key:Calls prog 169 #[.string a] w (jbM X w):=by
  rcases Az X with h0|h0
  ·subst h0;exact yb5 a w ha (ha.str hx)
  ·exact vcp a X w he.tab ha hx h0 (ha.str hx)
 refine key.mono ?_;rintro e w'⟨s,rfl,hs,hb⟩;rw[hs.unique h3];exact⟨rfl,hb⟩
def jB(c:Int)(w:World)(e:Ending)(w':World):Prop:=e=.returned (.int .i64 c)/\Aa w w'
theorem qcA{a b:ByteArray}{x y c:Int}(ha:Is a x)(hb:Is b y)(hc:Hid (kp x y=c))(hx:Fits x)(hy:Fits y)(w:World) :
  Calls prog 89 #[.string a,.string b] w (jB c w):=by
 have:=vbA a b x y w ha hb hx hy (ha.str hx) (hb.str hy);rw[hc.out]at this;exact this
def qa(c:Bool)(w:World)(e:Ending)(w':World):Prop:=e=.returned (.bool c)/\Aa w w'
theorem yao{a:ByteArray}{c:Bool}(hc:Hid (ks a.data.toList=c))(hs:Str a)(w:World) :
  Calls prog 88 #[.string a] w (qa c w):=by
 have:=kb9 a w hs;rw[hc.out]at this;exact this
theorem jbR{a b:Int}(h:a<b):kp a b = -1:=by unfold kp;rw[if_pos h]
theorem ybe{a b:Int}(h:a=b):kp a b=0:=by unfold kp;rw[if_neg oo,if_neg oo]
theorem qaq{a b:Int}(h:b<a):kp a b=1:=by unfold kp;rw[if_neg oo,if_pos h]
theorem jaA(x:Int):(S x).toList=itoa x:=by rw[ByteArray.toList_eq];exact qq x
theorem vcI{x y:Int}(h:x≠y):((S x).toList==(S y).toList)=false:=beq_eq_false_iff_ne.2 fun e=>h (kbt (by rwa[jaA,jaA]at e))
theorem kaA{x:Int}(h:x≠0):((S x).toList==[48])=false:=beq_eq_false_iff_ne.2 fun e=>h (kbt (by rw[jaA]at e;rw[e];exact yE))
theorem ybg(x:Nat):∃ r,IsRoot x r:=by
 have key:∀ n,∃ r,IsRoot n r:=by
  intro n
  induction n with
  | zero=>exact⟨0,by unfold IsRoot;omega⟩
  | succ n ih =>
   obtain⟨r,h1,h2⟩:=ih;by_cases h:(r+1)*(r+1)<=n+1
   ·refine⟨r+1,h,?_⟩;have:(r+1)*(r+1)<(r+1+1)*(r+1+1):=Ec oo oo;omega
   ·exact⟨r,oo,oo⟩
 exact key x
theorem yT{z:Int}(h:z.natAbs<100000):Fits z:=BY h (by decide +kernel)
theorem qa1{x:Int}(h:x=0):((S x).toList==[48])=true:=by
 subst h;rw[jaA,<- yE];rfl
def kaL(z:Int)(w:World)(e:Ending)(w':World):Prop:=e=.returned (.string (S z))/\Aa w w'
end Go.Proofs.YtdiecekagiledaaGreatDoor
