/-
 The exported functions, over strings: division. The exported functions over numerals, as the laws call them.
-/
import Derived.Test.YtnokpldomlmamaaGreatDoorOPlain3
import Derived.Test.YtnokpldomlmamaaGreatDoorOStr3
set_option maxRecDepth 100000
set_option maxHeartbeats 4000000
namespace Go.Proofs.YtnokpldomlmamaaGreatDoor
open Go Go.RowKit Go.Lib Go.Shelf
theorem one_any (w:World):Calls Tryz.prog 192 #[] w fun e w'=>∃ A n c,e = .returned (.slice A n c)∧IsNum w' A n c 1∧Below w.heap.size w w':=by
 go_enter Tryz.func192, Tryz.ntmps192
 go_wp2
 go_ret
 have hlit:=World.ownsRow_lit (base:=w.heap.size) (e := 3) (size:=1) w #[.int .i64 1] 1 (Nat.le_refl _) (by unfold maxLen;omega) rfl
 exact ⟨_,1,1,rfl,⟨[1],Reads.of_own hlit,⟨Small.mk (by decide) small_nil,by decide⟩,by simp [val],Nat.le_refl _⟩,(Below.refl _ w).alloc (Nat.le_refl _) _⟩
def DivOk (zq zr:Int) (w:World) (e:Ending) (w':World):Prop:=e = .returned (.tuple #[.string (S zq),.string (S zr),.int .i64 0])∧Below w.heap.size w w'
def BothOk (dx dy:Bool) (X Y:Nat) (w:World) (e:Ending) (w':World):Prop:=∃ u v,e = .returned (.tuple #[u,v,.bool true])∧IsSig w' u dx X∧IsSig w' v dy Y∧Below w.heap.size w w'
/-- Where the remainder stays as it is. -/
theorem div_core1 (a b:ByteArray) (dx dy:Bool) (X Y:Nat) (w:World) (hbo:Calls Tryz.prog 180 #[.string a,.string b] w (BothOk dx dy X Y w)) (ht:Tab w)
  (hX:X<10000 ^ 250) (hY:Y<10000 ^ 250) (hXY:X / Y<10000 ^ 250) (hR:X % Y<10000 ^ 250) (hY0:0<Y) (hc:dx=false∨X % Y=0) (zq zr:Int)
  (hq:tText (sv (dx != dy) (X / Y))=itoa zq∧tErr (sv (dx != dy) (X / Y))=0) (hr:tText (sv false (X % Y))=itoa zr∧tErr (sv false (X % Y))=0) :
  Calls Tryz.prog 133 #[.string a,.string b] w (DivOk zq zr w):=by
 have LX:=Lib.hid hX
 have LY:=Lib.hid hY
 have LQ:=Lib.hid hXY
 have LR:=Lib.hid hR
 have HQ:=Lib.hid hq
 have HR:=Lib.hid hr
 have HC:Hid (dx=true→X % Y=0):=Lib.hid (fun h=>by rw [h] at hc;simpa using hc)
 clear hX hY hXY hR hq hr hc
 cases dx <;> cases dy
 ·clear HC
  have HQ:Hid (tText (sv false (X / Y))=itoa zq∧tErr (sv false (X / Y))=0):=HQ
  go_enter Tryz.func133, Tryz.ntmps133
  go_wp2_with (first
  | (go_at_call 180; go_must (refine hbo.mono ?_;rintro e w1 ⟨u,v,rfl,⟨A1,n1,k1,rfl,hu⟩,⟨A2,n2,k2,rfl,hv⟩,hb1⟩;have hn2:0<n2:=(by rcases Nat.eq_zero_or_pos n2 with h | h;exact absurd (hv.zero.1 h) (by omega);exact h);have hn2':((n2:Int) == 0)=false:=(by simp;omega)))
  | (go_at_call 190; obtain ⟨m0,m1⟩:=two_new2 w1 #[.bool false,.slice A1 n1 k1] #[.bool false,.slice A2 n2 k2] 193; have hb2:=below2 w1 (.cells #[.bool false,.slice A1 n1 k1] 193) (.cells #[.bool false,.slice A2 n2 k2] 193);have hu2:=hu.below hb2;have hv2:=hv.below hb2;have hB2:=hb1.trans (hb2.mono hb1.size);generalize ((w1.alloc (.cells #[.bool false,.slice A1 n1 k1] 193)).alloc (.cells #[.bool false,.slice A2 n2 k2] 193))=V at *;go_must (refine (over_any A1 A2 n1 k1 n2 k2 _ _ _ hu2 hv2 LX.out LY.out hY0).mono ?_;rintro e' w3 ⟨Aq,nq,cq,Ar,nr,cr,rfl,hqq,hrr,hb3⟩;have g0:=(hb3.block _ (Array.getElem?_eq_some_iff.1 m0).1).trans m0;have g1:=(hb3.block _ (Array.getElem?_eq_some_iff.1 m1).1).trans m1;obtain ⟨d1,d2,_,_⟩:=two_facts g0;obtain ⟨d3,d4,_,_⟩:=two_facts g1;have hB3:=hB2.trans (hb3.mono hB2.size)))
  | (go_at_call_of 182 (Value.agg #[.bool false,.slice Aq nq cq]);go_must (refine (text_any _ false (X / Y) _ ⟨Aq,nq,cq,rfl,hqq⟩ LQ.out (ht.below hB3)).mono ?_;rintro e w4 ⟨rfl,hb4⟩;rw [HQ.out.1,HQ.out.2];have hB4:=hB3.trans (hb4.mono hB3.size)))
  | (go_at_call_of 182 (Value.agg #[.bool false,.slice Ar nr cr]);go_must (refine (text_any _ false (X % Y) _ ⟨Ar,nr,cr,rfl,hrr.below hb4⟩ LR.out (ht.below hB4)).mono ?_;rintro e w5 ⟨rfl,hb5⟩;rw [HR.out.1,HR.out.2])))
  refine bodyPost_ret (v := .tuple #[.string (S zq),.string (S zr),.int .i64 0]) ?res rfl ⟨rfl,hB4.trans (hb5.mono hB4.size)⟩
  case res=>simp [results,Tryz.f133, go_sem,S]
 ·clear HC
  have HQ:Hid (tText (sv true (X / Y))=itoa zq∧tErr (sv true (X / Y))=0):=HQ
  go_enter Tryz.func133, Tryz.ntmps133
  go_wp2_with (first
  | (go_at_call 180; go_must (refine hbo.mono ?_;rintro e w1 ⟨u,v,rfl,⟨A1,n1,k1,rfl,hu⟩,⟨A2,n2,k2,rfl,hv⟩,hb1⟩;have hn2:0<n2:=(by rcases Nat.eq_zero_or_pos n2 with h | h;exact absurd (hv.zero.1 h) (by omega);exact h);have hn2':((n2:Int) == 0)=false:=(by simp;omega)))
  | (go_at_call 190; obtain ⟨m0,m1⟩:=two_new2 w1 #[.bool false,.slice A1 n1 k1] #[.bool true,.slice A2 n2 k2] 193; have hb2:=below2 w1 (.cells #[.bool false,.slice A1 n1 k1] 193) (.cells #[.bool true,.slice A2 n2 k2] 193);have hu2:=hu.below hb2;have hv2:=hv.below hb2;have hB2:=hb1.trans (hb2.mono hb1.size);generalize ((w1.alloc (.cells #[.bool false,.slice A1 n1 k1] 193)).alloc (.cells #[.bool true,.slice A2 n2 k2] 193))=V at *;go_must (refine (over_any A1 A2 n1 k1 n2 k2 _ _ _ hu2 hv2 LX.out LY.out hY0).mono ?_;rintro e' w3 ⟨Aq,nq,cq,Ar,nr,cr,rfl,hqq,hrr,hb3⟩;have g0:=(hb3.block _ (Array.getElem?_eq_some_iff.1 m0).1).trans m0;have g1:=(hb3.block _ (Array.getElem?_eq_some_iff.1 m1).1).trans m1;obtain ⟨d1,d2,_,_⟩:=two_facts g0;obtain ⟨d3,d4,_,_⟩:=two_facts g1;have hB3:=hB2.trans (hb3.mono hB2.size)))
  | (go_at_call_of 182 (Value.agg #[.bool true,.slice Aq nq cq]);go_must (refine (text_any _ true (X / Y) _ ⟨Aq,nq,cq,rfl,hqq⟩ LQ.out (ht.below hB3)).mono ?_;rintro e w4 ⟨rfl,hb4⟩;rw [HQ.out.1,HQ.out.2];have hB4:=hB3.trans (hb4.mono hB3.size)))
  | (go_at_call_of 182 (Value.agg #[.bool false,.slice Ar nr cr]);go_must (refine (text_any _ false (X % Y) _ ⟨Ar,nr,cr,rfl,hrr.below hb4⟩ LR.out (ht.below hB4)).mono ?_;rintro e w5 ⟨rfl,hb5⟩;rw [HR.out.1,HR.out.2])))
  refine bodyPost_ret (v := .tuple #[.string (S zq),.string (S zr),.int .i64 0]) ?res rfl ⟨rfl,hB4.trans (hb5.mono hB4.size)⟩
  case res=>simp [results,Tryz.f133, go_sem,S]
 ·have HC2:=Lib.hid (HC.out rfl)
  clear HC
  have HQ:Hid (tText (sv true (X / Y))=itoa zq∧tErr (sv true (X / Y))=0):=HQ
  go_enter Tryz.func133, Tryz.ntmps133
  go_wp2_with (first
  | (go_at_call 180; go_must (refine hbo.mono ?_;rintro e w1 ⟨u,v,rfl,⟨A1,n1,k1,rfl,hu⟩,⟨A2,n2,k2,rfl,hv⟩,hb1⟩;have hn2:0<n2:=(by rcases Nat.eq_zero_or_pos n2 with h | h;exact absurd (hv.zero.1 h) (by omega);exact h);have hn2':((n2:Int) == 0)=false:=(by simp;omega)))
  | (go_at_call 190; obtain ⟨m0,m1⟩:=two_new2 w1 #[.bool true,.slice A1 n1 k1] #[.bool false,.slice A2 n2 k2] 193; have hb2:=below2 w1 (.cells #[.bool true,.slice A1 n1 k1] 193) (.cells #[.bool false,.slice A2 n2 k2] 193);have hu2:=hu.below hb2;have hv2:=hv.below hb2;have hB2:=hb1.trans (hb2.mono hb1.size);generalize ((w1.alloc (.cells #[.bool true,.slice A1 n1 k1] 193)).alloc (.cells #[.bool false,.slice A2 n2 k2] 193))=V at *;go_must (refine (over_any A1 A2 n1 k1 n2 k2 _ _ _ hu2 hv2 LX.out LY.out hY0).mono ?_;rintro e' w3 ⟨Aq,nq,cq,Ar,nr,cr,rfl,hqq,hrr,hb3⟩;have g0:=(hb3.block _ (Array.getElem?_eq_some_iff.1 m0).1).trans m0;have g1:=(hb3.block _ (Array.getElem?_eq_some_iff.1 m1).1).trans m1;obtain ⟨d1,d2,_,_⟩:=two_facts g0;obtain ⟨d3,d4,_,_⟩:=two_facts g1;have hB3:=hB2.trans (hb3.mono hB2.size);obtain rfl:nr=0:=hrr.zero.2 HC2.out))
  | (go_at_call_of 182 (Value.agg #[.bool true,.slice Aq nq cq]);go_must (refine (text_any _ true (X / Y) _ ⟨Aq,nq,cq,rfl,hqq⟩ LQ.out (ht.below hB3)).mono ?_;rintro e w4 ⟨rfl,hb4⟩;rw [HQ.out.1,HQ.out.2];have hB4:=hB3.trans (hb4.mono hB3.size)))
  | (go_at_call_of 182 (Value.agg #[.bool false,.slice Ar 0 cr]);go_must (refine (text_any _ false (X % Y) _ ⟨Ar,0,cr,rfl,hrr.below hb4⟩ LR.out (ht.below hB4)).mono ?_;rintro e w5 ⟨rfl,hb5⟩;rw [HR.out.1,HR.out.2])))
  refine bodyPost_ret (v := .tuple #[.string (S zq),.string (S zr),.int .i64 0]) ?res rfl ⟨rfl,hB4.trans (hb5.mono hB4.size)⟩
  case res=>simp [results,Tryz.f133, go_sem,S]
 ·have HC2:=Lib.hid (HC.out rfl)
  clear HC
  have HQ:Hid (tText (sv false (X / Y))=itoa zq∧tErr (sv false (X / Y))=0):=HQ
  go_enter Tryz.func133, Tryz.ntmps133
  go_wp2_with (first
  | (go_at_call 180; go_must (refine hbo.mono ?_;rintro e w1 ⟨u,v,rfl,⟨A1,n1,k1,rfl,hu⟩,⟨A2,n2,k2,rfl,hv⟩,hb1⟩;have hn2:0<n2:=(by rcases Nat.eq_zero_or_pos n2 with h | h;exact absurd (hv.zero.1 h) (by omega);exact h);have hn2':((n2:Int) == 0)=false:=(by simp;omega)))
  | (go_at_call 190; obtain ⟨m0,m1⟩:=two_new2 w1 #[.bool true,.slice A1 n1 k1] #[.bool true,.slice A2 n2 k2] 193; have hb2:=below2 w1 (.cells #[.bool true,.slice A1 n1 k1] 193) (.cells #[.bool true,.slice A2 n2 k2] 193);have hu2:=hu.below hb2;have hv2:=hv.below hb2;have hB2:=hb1.trans (hb2.mono hb1.size);generalize ((w1.alloc (.cells #[.bool true,.slice A1 n1 k1] 193)).alloc (.cells #[.bool true,.slice A2 n2 k2] 193))=V at *;go_must (refine (over_any A1 A2 n1 k1 n2 k2 _ _ _ hu2 hv2 LX.out LY.out hY0).mono ?_;rintro e' w3 ⟨Aq,nq,cq,Ar,nr,cr,rfl,hqq,hrr,hb3⟩;have g0:=(hb3.block _ (Array.getElem?_eq_some_iff.1 m0).1).trans m0;have g1:=(hb3.block _ (Array.getElem?_eq_some_iff.1 m1).1).trans m1;obtain ⟨d1,d2,_,_⟩:=two_facts g0;obtain ⟨d3,d4,_,_⟩:=two_facts g1;have hB3:=hB2.trans (hb3.mono hB2.size);obtain rfl:nr=0:=hrr.zero.2 HC2.out))
  | (go_at_call_of 182 (Value.agg #[.bool false,.slice Aq nq cq]);go_must (refine (text_any _ false (X / Y) _ ⟨Aq,nq,cq,rfl,hqq⟩ LQ.out (ht.below hB3)).mono ?_;rintro e w4 ⟨rfl,hb4⟩;rw [HQ.out.1,HQ.out.2];have hB4:=hB3.trans (hb4.mono hB3.size)))
  | (go_at_call_of 182 (Value.agg #[.bool false,.slice Ar 0 cr]);go_must (refine (text_any _ false (X % Y) _ ⟨Ar,0,cr,rfl,hrr.below hb4⟩ LR.out (ht.below hB4)).mono ?_;rintro e w5 ⟨rfl,hb5⟩;rw [HR.out.1,HR.out.2])))
  refine bodyPost_ret (v := .tuple #[.string (S zq),.string (S zr),.int .i64 0]) ?res rfl ⟨rfl,hB4.trans (hb5.mono hB4.size)⟩
  case res=>simp [results,Tryz.f133, go_sem,S]
/-- Where the remainder must not be negative. -/
theorem div_core2 (a b:ByteArray) (dy:Bool) (X Y:Nat) (w:World) (hbo:Calls Tryz.prog 180 #[.string a,.string b] w (BothOk true dy X Y w)) (ht:Tab w)
  (hX:X<10000 ^ 250) (hY:Y<10000 ^ 250) (hXY:X / Y+1<10000 ^ 250) (hY0:0<Y) (hc:X % Y≠0) (zq zr:Int)
  (hq:tText (sv (true != dy) (X / Y+1))=itoa zq∧tErr (sv (true != dy) (X / Y+1))=0) (hr:tText (sv false (Y - X % Y))=itoa zr∧tErr (sv false (Y - X % Y))=0) :
  Calls Tryz.prog 133 #[.string a,.string b] w (DivOk zq zr w):=by
 have LX:=Lib.hid hX
 have LY:=Lib.hid hY
 have LQ:=Lib.hid hXY
 have hlt:=Nat.mod_lt X hY0
 have LR:Hid (Y - X % Y<10000 ^ 250):=Lib.hid (Nat.lt_of_le_of_lt (Nat.sub_le _ _) hY)
 have LQM:Hid (Mod (X / Y)):=Lib.hid (mod_of_pow (Nat.lt_of_succ_lt hXY) (by omega))
 have LOM:Hid (Mod 1):=Lib.hid (mod_of_pow (K:=1) (by decide) (by omega))
 have LYM:Hid (Mod Y):=Lib.hid (mod_of_pow hY (by omega))
 have LRM:Hid (Mod (X % Y)):=Lib.hid (mod_of_pow (Nat.lt_trans hlt hY) (by omega))
 have LYR:Hid (X % Y≤Y):=Lib.hid (Nat.le_of_lt hlt)
 have HQ:=Lib.hid hq
 have HR:=Lib.hid hr
 have HC:=Lib.hid hc
 clear hX hY hXY hq hr hc hlt
 cases dy
 ·have HQ:Hid (tText (sv true (X / Y+1))=itoa zq∧tErr (sv true (X / Y+1))=0):=HQ
  go_enter Tryz.func133, Tryz.ntmps133
  go_wp2_with (first
  | (go_at_call 180; go_must (refine hbo.mono ?_;rintro e w1 ⟨u,v,rfl,⟨A1,n1,k1,rfl,hu⟩,⟨A2,n2,k2,rfl,hv⟩,hb1⟩;have hn2:0<n2:=(by rcases Nat.eq_zero_or_pos n2 with h | h;exact absurd (hv.zero.1 h) (by omega);exact h);have hn2':((n2:Int) == 0)=false:=(by simp;omega)))
  | (go_at_call 190; obtain ⟨m0,m1⟩:=two_new2 w1 #[.bool true,.slice A1 n1 k1] #[.bool false,.slice A2 n2 k2] 193; have hb2:=below2 w1 (.cells #[.bool true,.slice A1 n1 k1] 193) (.cells #[.bool false,.slice A2 n2 k2] 193);have hu2:=hu.below hb2;have hv2:=hv.below hb2;have hB2:=hb1.trans (hb2.mono hb1.size);generalize ((w1.alloc (.cells #[.bool true,.slice A1 n1 k1] 193)).alloc (.cells #[.bool false,.slice A2 n2 k2] 193))=V at *;go_must (refine (over_any A1 A2 n1 k1 n2 k2 _ _ _ hu2 hv2 LX.out LY.out hY0).mono ?_;rintro e' w3 ⟨Aq,nq,cq,Ar,nr,cr,rfl,hqq,hrr,hb3⟩;have g0:=(hb3.block _ (Array.getElem?_eq_some_iff.1 m0).1).trans m0;have g1:=(hb3.block _ (Array.getElem?_eq_some_iff.1 m1).1).trans m1;obtain ⟨d1,d2,_,_⟩:=two_facts g0;obtain ⟨d3,d4,_,_⟩:=two_facts g1;have hB3:=hB2.trans (hb3.mono hB2.size);have hY3:=hv2.below hb3;have hnr:0<nr:=(by rcases Nat.eq_zero_or_pos nr with h | h;exact absurd (hrr.zero.1 h) HC.out;exact h))))
  go_region_held3 (fun U=>U.cell? ⟨w1.heap.size+1,1,none⟩=some (.slice A2 n2 k2)) (first | exact d4 | exact e4 | exact f4 | exact g4) (first
   | (go_at_call 192; refine (one_any _).mono ?_;rintro e w4 ⟨Ao,no,co,rfl,hone,hb4'⟩;have hb4:=below_of_drew hb4';have i1:=(hb4.block _ (Array.getElem?_eq_some_iff.1 g1).1).trans g1;have i0:=(hb4.block _ (Array.getElem?_eq_some_iff.1 g0).1).trans g0;obtain ⟨_,e4,_,_⟩:=two_facts i1;have hB4:=hB3.trans (hb4.mono hB3.size))
   | (go_at_call 191; refine (plus_any Aq Ao nq cq no co _ _ _ (by exact hqq.below hb4) (by exact hone) LQM.out LOM.out).mono ?_;rintro e w5 ⟨As,ns,cs,rfl,hss,hb5⟩;have j1:=(hb5.block _ (Array.getElem?_eq_some_iff.1 i1).1).trans i1;have j0:=(hb5.block _ (Array.getElem?_eq_some_iff.1 i0).1).trans i0;obtain ⟨_,f4,_,_⟩:=two_facts j1;have hB5:=hB4.trans (hb5.mono hB4.size))
   | (go_at_call 193; refine (minus_any A2 Ar n2 k2 nr cr _ _ _ (by exact (hY3.below hb4).below hb5) (by exact (hrr.below hb4).below hb5) LYM.out LRM.out LYR.out).mono ?_;rintro e w6 ⟨Ad,nd,cd,rfl,hdd,hb6⟩;have q1:=(hb6.block _ (Array.getElem?_eq_some_iff.1 j1).1).trans j1;have q0:=(hb6.block _ (Array.getElem?_eq_some_iff.1 j0).1).trans j0;obtain ⟨q3,q4,_,_⟩:=two_facts q1;obtain ⟨q5,q6,_,_⟩:=two_facts q0;have g4:=q4;have hB6:=hB5.trans (hb6.mono hB5.size)))
  go_wp2_with (first
  | (go_at_call_of 182 (Value.agg #[.bool true,.slice As ns cs]);go_must (refine (text_any _ true (X / Y+1) _ ⟨As,ns,cs,rfl,hss.below hb6⟩ LQ.out (ht.below hB6)).mono ?_;rintro e w7 ⟨rfl,hb7⟩;rw [HQ.out.1,HQ.out.2];have hB7:=hB6.trans (hb7.mono hB6.size)))
  | (go_at_call_of 182 (Value.agg #[.bool false,.slice Ad nd cd]);go_must (refine (text_any _ false (Y - X % Y) _ ⟨Ad,nd,cd,rfl,hdd.below hb7⟩ LR.out (ht.below hB7)).mono ?_;rintro e w8 ⟨rfl,hb8⟩;rw [HR.out.1,HR.out.2])))
  refine bodyPost_ret (v := .tuple #[.string (S zq),.string (S zr),.int .i64 0]) ?res rfl ⟨rfl,hB7.trans (hb8.mono hB7.size)⟩
  case res=>simp [results,Tryz.f133, go_sem,S]
 ·have HQ:Hid (tText (sv false (X / Y+1))=itoa zq∧tErr (sv false (X / Y+1))=0):=HQ
  go_enter Tryz.func133, Tryz.ntmps133
  go_wp2_with (first
  | (go_at_call 180; go_must (refine hbo.mono ?_;rintro e w1 ⟨u,v,rfl,⟨A1,n1,k1,rfl,hu⟩,⟨A2,n2,k2,rfl,hv⟩,hb1⟩;have hn2:0<n2:=(by rcases Nat.eq_zero_or_pos n2 with h | h;exact absurd (hv.zero.1 h) (by omega);exact h);have hn2':((n2:Int) == 0)=false:=(by simp;omega)))
  | (go_at_call 190; obtain ⟨m0,m1⟩:=two_new2 w1 #[.bool true,.slice A1 n1 k1] #[.bool true,.slice A2 n2 k2] 193; have hb2:=below2 w1 (.cells #[.bool true,.slice A1 n1 k1] 193) (.cells #[.bool true,.slice A2 n2 k2] 193);have hu2:=hu.below hb2;have hv2:=hv.below hb2;have hB2:=hb1.trans (hb2.mono hb1.size);generalize ((w1.alloc (.cells #[.bool true,.slice A1 n1 k1] 193)).alloc (.cells #[.bool true,.slice A2 n2 k2] 193))=V at *;go_must (refine (over_any A1 A2 n1 k1 n2 k2 _ _ _ hu2 hv2 LX.out LY.out hY0).mono ?_;rintro e' w3 ⟨Aq,nq,cq,Ar,nr,cr,rfl,hqq,hrr,hb3⟩;have g0:=(hb3.block _ (Array.getElem?_eq_some_iff.1 m0).1).trans m0;have g1:=(hb3.block _ (Array.getElem?_eq_some_iff.1 m1).1).trans m1;obtain ⟨d1,d2,_,_⟩:=two_facts g0;obtain ⟨d3,d4,_,_⟩:=two_facts g1;have hB3:=hB2.trans (hb3.mono hB2.size);have hY3:=hv2.below hb3;have hnr:0<nr:=(by rcases Nat.eq_zero_or_pos nr with h | h;exact absurd (hrr.zero.1 h) HC.out;exact h))))
  go_region_held3 (fun U=>U.cell? ⟨w1.heap.size+1,1,none⟩=some (.slice A2 n2 k2)) (first | exact d4 | exact e4 | exact f4 | exact g4) (first
   | (go_at_call 192; refine (one_any _).mono ?_;rintro e w4 ⟨Ao,no,co,rfl,hone,hb4'⟩;have hb4:=below_of_drew hb4';have i1:=(hb4.block _ (Array.getElem?_eq_some_iff.1 g1).1).trans g1;have i0:=(hb4.block _ (Array.getElem?_eq_some_iff.1 g0).1).trans g0;obtain ⟨_,e4,_,_⟩:=two_facts i1;have hB4:=hB3.trans (hb4.mono hB3.size))
   | (go_at_call 191; refine (plus_any Aq Ao nq cq no co _ _ _ (by exact hqq.below hb4) (by exact hone) LQM.out LOM.out).mono ?_;rintro e w5 ⟨As,ns,cs,rfl,hss,hb5⟩;have j1:=(hb5.block _ (Array.getElem?_eq_some_iff.1 i1).1).trans i1;have j0:=(hb5.block _ (Array.getElem?_eq_some_iff.1 i0).1).trans i0;obtain ⟨_,f4,_,_⟩:=two_facts j1;have hB5:=hB4.trans (hb5.mono hB4.size))
   | (go_at_call 193; refine (minus_any A2 Ar n2 k2 nr cr _ _ _ (by exact (hY3.below hb4).below hb5) (by exact (hrr.below hb4).below hb5) LYM.out LRM.out LYR.out).mono ?_;rintro e w6 ⟨Ad,nd,cd,rfl,hdd,hb6⟩;have q1:=(hb6.block _ (Array.getElem?_eq_some_iff.1 j1).1).trans j1;have q0:=(hb6.block _ (Array.getElem?_eq_some_iff.1 j0).1).trans j0;obtain ⟨q3,q4,_,_⟩:=two_facts q1;obtain ⟨q5,q6,_,_⟩:=two_facts q0;have g4:=q4;have hB6:=hB5.trans (hb6.mono hB5.size)))
  go_wp2_with (first
  | (go_at_call_of 182 (Value.agg #[.bool false,.slice As ns cs]);go_must (refine (text_any _ false (X / Y+1) _ ⟨As,ns,cs,rfl,hss.below hb6⟩ LQ.out (ht.below hB6)).mono ?_;rintro e w7 ⟨rfl,hb7⟩;rw [HQ.out.1,HQ.out.2];have hB7:=hB6.trans (hb7.mono hB6.size)))
  | (go_at_call_of 182 (Value.agg #[.bool false,.slice Ad nd cd]);go_must (refine (text_any _ false (Y - X % Y) _ ⟨Ad,nd,cd,rfl,hdd.below hb7⟩ LR.out (ht.below hB7)).mono ?_;rintro e w8 ⟨rfl,hb8⟩;rw [HR.out.1,HR.out.2])))
  refine bodyPost_ret (v := .tuple #[.string (S zq),.string (S zr),.int .i64 0]) ?res rfl ⟨rfl,hB7.trans (hb8.mono hB7.size)⟩
  case res=>simp [results,Tryz.f133, go_sem,S]
theorem text_fit {neg:Bool} {q:Nat} {z:Int} (h:sv neg q=z) (hf:Fits z):tText (sv neg q)=itoa z∧tErr (sv neg q)=0:=by
 rw [h]
 exact ⟨by unfold tText;rw [if_pos hf],by unfold tErr;rw [if_pos hf]⟩
theorem sv_if (x y:Int) (q:Nat):sv (decide (x<0) != decide (y<0)) q=if (x<0 ↔ y<0) then (q:Int) else -(q:Int):=by
 by_cases h1:x<0 <;> by_cases h2:y<0 <;> simp [sv,h1,h2]
theorem div_ok (a b:ByteArray) (x y:Int) (w:World) (ht:Tab w) (ha:a.data.toList=itoa x) (hb:b.data.toList=itoa y) (hx:Fits x) (hy:Fits y) (hy0:y≠0) (hsa:Str a) (hsb:Str b) :
  Calls Tryz.prog 133 #[.string a,.string b] w (DivOk (x / y) (x % y) w):=by
 obtain ⟨lx,ly,_⟩:=mul_lt hx hy
 obtain ⟨fq,fr⟩:=div_fits hx hy hy0
 have hY:0<y.natAbs:=by omega
 have hbo:Calls Tryz.prog 180 #[.string a,.string b] w (BothOk (decide (x<0)) (decide (y<0)) x.natAbs y.natAbs w):=both_ok a b x y w ha hb hx hy hsa hsb
 by_cases hc:0≤x∨x.natAbs % y.natAbs=0
 ·obtain ⟨h1,h2⟩:=div_plain x y hy0 hc
  refine div_core1 a b (decide (x<0)) (decide (y<0)) _ _ w hbo ht lx ly (Nat.lt_of_le_of_lt (Nat.div_le_self _ _) lx) (Nat.lt_trans (Nat.mod_lt _ hY) ly) hY ?_ _ _ (text_fit (by rw [sv_if];exact h1) fq) (text_fit (by simpa [sv] using h2) fr)
  rcases hc with h | h
  ·exact .inl (by simpa using h)
  ·exact .inr h
 ·have hx0:x<0:=by omega
  have hR:x.natAbs % y.natAbs≠0:=fun e=>hc (.inr e)
  obtain ⟨h1,h2⟩:=div_fixed x y hy0 hx0 hR
  rw [decide_eq_true hx0] at hbo
  have hX1:x.natAbs / y.natAbs+1<10000 ^ 250:=by
   have h3:x.natAbs / y.natAbs≤x.natAbs:=Nat.div_le_self _ _
   have h4:x.natAbs<10 ^ 200:=hx
   have h5:(10:Nat) ^ 200+1<10000 ^ 250:=by decide +kernel
   generalize (10:Nat) ^ 200=T at *
   generalize (10000:Nat) ^ 250=U at *
   omega
  exact div_core2 a b (decide (y<0)) _ _ w hbo ht lx ly hX1 hY hR _ _ (text_fit (by have:=sv_if x y (x.natAbs / y.natAbs+1);rw [decide_eq_true hx0] at this;rw [this];exact h1) fq) (text_fit (by simpa [sv] using h2) fr)
end Go.Proofs.YtnokpldomlmamaaGreatDoor
namespace Go.Proofs.YtnokpldomlmamaaGreatDoor
open Go Go.RowKit Go.Lib Go.Shelf
theorem is_zero:(⟨#[48]⟩:ByteArray).data.toList=itoa 0:=by rw [show (0:Int)=((0:Nat):Int) from rfl,itoa_nn,decDigits_zero]
theorem fits_zero:Fits 0:=by unfold Fits;decide
end Go.Proofs.YtnokpldomlmamaaGreatDoor
namespace Go.Proofs.YtnokpldomlmamaaGreatDoor
open Go Go.RowKit Go.Lib Go.Shelf
theorem S_zero:S 0=⟨#[48]⟩:=by
 unfold S
 rw [← is_zero]
/-- What the program's start has laid, and nothing has changed: Itoa's table, and Atoi's two errors. -/
structure Env (w:World):Prop where
 tab:Tab w
 syn:∃ te pe,w.cell? ⟨2, 0,none⟩=some (.iface te pe)
 rng:∃ te pe,w.cell? ⟨3, 0,none⟩=some (.iface te pe)
theorem Env.below {w w':World} (h:Env w) (hb:Below w.heap.size w w'):Env w':=by
 obtain ⟨h1,⟨t1,p1,h2⟩,⟨t2,p2,h3⟩⟩:=h
 exact ⟨h1.below hb,⟨t1,p1,(hb.cell (World.block_lt_of_cell? _ _ h2)).trans h2⟩,⟨t2,p2,(hb.cell (World.block_lt_of_cell? _ _ h3)).trans h3⟩⟩
end Go.Proofs.YtnokpldomlmamaaGreatDoor
namespace Go.Proofs.YtnokpldomlmamaaGreatDoor
open Go Go.RowKit Go.Lib Go.Shelf
theorem is_lit {a:ByteArray} {z:Int} (h:validB a.data.toList=true) (hz:zOf a.data.toList=z):Is a z:=by
 obtain ⟨y,_,e⟩:=validB_elim _ h
 rw [e,zOf_itoa] at hz
 subst hz
 exact e
theorem Is.str {a:ByteArray} {z:Int} (h:Is a z) (hf:Fits z):Str a:=by
 have:=S_size hf
 rw [h.eq]
 unfold Str
 omega
theorem Is.valid {a:ByteArray} {z:Int} (h:Is a z) (hf:Fits z):validB a.data.toList=true:=by
 unfold Is at h
 rw [h];exact validB_itoa z hf
def StrOk (z:Int) (w:World) (e:Ending) (w':World):Prop:=e = .returned (.tuple #[.string (S z),.int .i64 0])∧Below w.heap.size w w'
theorem tText_fit {z:Int} (h:Fits z):(⟨(tText z).toArray⟩:ByteArray)=S z:=by unfold tText S;rw [if_pos h]
theorem tErr_fit {z:Int} (h:Fits z):tErr z=0:=by unfold tErr;rw [if_pos h]
theorem tText_big {z:Int} (h:¬ Fits z):tText z=[]:=by unfold tText;rw [if_neg h]
theorem tErr_big {z:Int} (h:¬ Fits z):tErr z=30:=by unfold tErr;rw [if_neg h]
theorem addS {a b:ByteArray} {x y v:Int} (ha:Is a x) (hb:Is b y) (hv:Hid (x+y=v)) (hx:Fits x) (hy:Fits y) (hf:Fits v) (w:World) (he:Env w) :
  Calls Tryz.prog 111 #[.string a,.string b] w (StrOk v w):=by
 have:=add_ok a b x y w he.tab ha hb hx hy (ha.str hx) (hb.str hy)
 rw [hv.out,tText_fit hf,tErr_fit hf] at this
 exact this
theorem subS {a b:ByteArray} {x y v:Int} (ha:Is a x) (hb:Is b y) (hv:Hid (x - y=v)) (hx:Fits x) (hy:Fits y) (hf:Fits v) (w:World) (he:Env w) :
  Calls Tryz.prog 112 #[.string a,.string b] w (StrOk v w):=by
 have:=sub_ok a b x y w he.tab ha hb hx hy (ha.str hx) (hb.str hy)
 rw [hv.out,tText_fit hf,tErr_fit hf] at this
 exact this
theorem mulS {a b:ByteArray} {x y v:Int} (ha:Is a x) (hb:Is b y) (hv:Hid (x * y=v)) (hx:Fits x) (hy:Fits y) (hf:Fits v) (w:World) (he:Env w) :
  Calls Tryz.prog 183 #[.string a,.string b] w (StrOk v w):=by
 have:=mul_ok a b x y w he.tab ha hb hx hy (ha.str hx) (hb.str hy)
 rw [hv.out,tText_fit hf,tErr_fit hf] at this
 exact this
theorem divS {a b:ByteArray} {x y q r:Int} (ha:Is a x) (hb:Is b y) (hq:Hid (x / y=q)) (hr:Hid (x % y=r)) (hx:Fits x) (hy:Fits y) (hy0:Hid (y≠0)) (w:World) (he:Env w) :
  Calls Tryz.prog 133 #[.string a,.string b] w (DivOk q r w):=by
 have:=div_ok a b x y w he.tab ha hb hx hy hy0.out (ha.str hx) (hb.str hy)
 rw [hq.out,hr.out] at this
 exact this
theorem gcdS {a b:ByteArray} {x y v:Int} (ha:Is a x) (hb:Is b y) (hv:Hid (((x.natAbs.gcd y.natAbs:Nat):Int)=v)) (hx:Fits x) (hy:Fits y) (w:World) (he:Env w) :
  Calls Tryz.prog 142 #[.string a,.string b] w (StrOk v w):=by
 have:=gcd_ok a b x y w he.tab ha hb hx hy (ha.str hx) (hb.str hy)
 rw [hv.out] at this
 exact this
def CmpOk (c:Int) (w:World) (e:Ending) (w':World):Prop:=e = .returned (.int .i64 c)∧Below w.heap.size w w'
theorem cmpS {a b:ByteArray} {x y c:Int} (ha:Is a x) (hb:Is b y) (hc:Hid (cmpZ x y=c)) (hx:Fits x) (hy:Fits y) (w:World) :
  Calls Tryz.prog 134 #[.string a,.string b] w (CmpOk c w):=by
 have:=compare_ok a b x y w ha hb hx hy (ha.str hx) (hb.str hy)
 rw [hc.out] at this
 exact this
def BoolOk (c:Bool) (w:World) (e:Ending) (w':World):Prop:=e = .returned (.bool c)∧Below w.heap.size w w'
theorem validS {a:ByteArray} {c:Bool} (hc:Hid (validB a.data.toList=c)) (hs:Str a) (w:World) :
  Calls Tryz.prog 141 #[.string a] w (BoolOk c w):=by
 have:=valid_any a w hs
 rw [hc.out] at this
 exact this
theorem cmpZ_lt {a b:Int} (h:a<b):cmpZ a b = -1:=by unfold cmpZ;rw [if_pos h]
theorem cmpZ_eq {a b:Int} (h:a=b):cmpZ a b=0:=by unfold cmpZ;rw [if_neg (by omega),if_neg (by omega)]
theorem cmpZ_gt {a b:Int} (h:b<a):cmpZ a b=1:=by unfold cmpZ;rw [if_neg (by omega),if_pos h]
theorem S_list (x:Int):(S x).toList=itoa x:=by rw [ByteArray.toList_eq];exact is_S x
theorem S_ne {x y:Int} (h:x≠y):((S x).toList == (S y).toList)=false:=beq_eq_false_iff_ne.2 fun e=>h (itoa_inj (by rwa [S_list,S_list] at e))
theorem S_ne0 {x:Int} (h:x≠0):((S x).toList == [48])=false:=beq_eq_false_iff_ne.2 fun e=>h (itoa_inj (by rw [S_list] at e;rw [e];exact is_zero))
end Go.Proofs.YtnokpldomlmamaaGreatDoor
namespace Go.Proofs.YtnokpldomlmamaaGreatDoor
open Go Go.RowKit Go.Lib Go.Shelf
theorem fits_lit {z:Int} (h:z.natAbs<100000):Fits z:=Nat.lt_trans h (by decide +kernel)
theorem S_eq0 {x:Int} (h:x=0):((S x).toList == [48])=true:=by
 subst h
 rw [S_list,← is_zero]
 rfl
def FromOk (z:Int) (w:World) (e:Ending) (w':World):Prop:=e = .returned (.string (S z))∧Below w.heap.size w w'
end Go.Proofs.YtnokpldomlmamaaGreatDoor
