/-
 The exported functions, over strings: division. The exported functions over numerals, as the laws call them.
-/
import Derived.Test.YtdikaoahgleffaaGreatDoorWPlain3
import Derived.Test.YtdikaoahgleffaaGreatDoorWStr3
set_option maxRecDepth 100000
set_option maxHeartbeats 4000000
namespace Go.Proofs.YtdikaoahgleffaaGreatDoor
open Go Go.RowKit Go.Lib Go.Shelf
theorem one_any (w:World):Calls Tryz.prog 170 #[] w fun e w'=>∃ A n c,e = .returned (.slice A n c)∧IsNum w' A n c 1∧Below w.heap.size w w':=by
 go_enter Tryz.func170, Tryz.ntmps170;go_wp2;go_ret;have hlit:=World.ownsRow_lit (base:=w.heap.size) (e := 3) (size:=1) w #[.int .i64 1] 1 (Nat.le_refl _) (by unfold maxLen;omega) rfl;exact ⟨_,1,1,rfl,⟨[1],Reads.of_own hlit,⟨Small.mk (by decide) small_nil,by decide⟩,by simp [val],Nat.le_refl _⟩,(Below.refl _ w).alloc (Nat.le_refl _) _⟩
def DivOk (zq zr:Int) (w:World) (e:Ending) (w':World):Prop:=e = .returned (.tuple #[.string (S zq),.string (S zr),.int .i64 0])∧Below w.heap.size w w'
def BothOk (dx dy:Bool) (X Y:Nat) (w:World) (e:Ending) (w':World):Prop:=∃ u v,e = .returned (.tuple #[u,v,.bool true])∧IsSig w' u dx X∧IsSig w' v dy Y∧Below w.heap.size w w'
theorem div_core1 (a b:ByteArray) (dx dy:Bool) (X Y:Nat) (w:World) (hbo:Calls Tryz.prog 104 #[.string a,.string b] w (BothOk dx dy X Y w)) (ht:Tab w)
  (hX:X<10000 ^ 250) (hY:Y<10000 ^ 250) (hXY:X / Y<10000 ^ 250) (hR:X % Y<10000 ^ 250) (hY0:0<Y) (hc:dx=false∨X % Y=0) (zq zr:Int)
  (hq:tText (sv (dx != dy) (X / Y))=itoa zq∧tErr (sv (dx != dy) (X / Y))=0) (hr:tText (sv false (X % Y))=itoa zr∧tErr (sv false (X % Y))=0) :
  Calls Tryz.prog 121 #[.string a,.string b] w (DivOk zq zr w):=by
 have LX:=Lib.hid hX;have LY:=Lib.hid hY;have LQ:=Lib.hid hXY;have LR:=Lib.hid hR;have HQ:=Lib.hid hq;have HR:=Lib.hid hr;have HC:Hid (dx=true→X % Y=0):=Lib.hid (fun h=>by rw [h] at hc;simpa using hc);clear hX hY hXY hR hq hr hc
 cases dx <;> cases dy
 ·clear HC;have HQ:Hid (tText (sv false (X / Y))=itoa zq∧tErr (sv false (X / Y))=0):=HQ;go_enter Tryz.func121, Tryz.ntmps121;go_wp2_with (first
  | (go_at_call 104; go_must (refine hbo.mono ?_;rintro e w1 ⟨u,v,rfl,⟨A1,n1,k1,rfl,hu⟩,⟨A2,n2,k2,rfl,hv⟩,hb1⟩;have hn2:0<n2:=(by rcases Nat.eq_zero_or_pos n2 with h | h;exact absurd (hv.zero.1 h) (by omega);exact h);have hn2':((n2:Int) == 0)=false:=(by simp;omega)))
  | (go_at_call 164; obtain ⟨m0,m1⟩:=two_new2 w1 #[.bool false,.slice A1 n1 k1] #[.bool false,.slice A2 n2 k2] 127; have hb2:=below2 w1 (.cells #[.bool false,.slice A1 n1 k1] 127) (.cells #[.bool false,.slice A2 n2 k2] 127);have hu2:=hu.below hb2;have hv2:=hv.below hb2;have hB2:=hb1.trans (hb2.mono hb1.size);generalize ((w1.alloc (.cells #[.bool false,.slice A1 n1 k1] 127)).alloc (.cells #[.bool false,.slice A2 n2 k2] 127))=V at *;go_must (refine (over_any A1 A2 n1 k1 n2 k2 _ _ _ hu2 hv2 LX.out LY.out hY0).mono ?_;rintro e' w3 ⟨Aq,nq,cq,Ar,nr,cr,rfl,hqq,hrr,hb3⟩;have g0:=(hb3.block _ (Array.getElem?_eq_some_iff.1 m0).1).trans m0;have g1:=(hb3.block _ (Array.getElem?_eq_some_iff.1 m1).1).trans m1;obtain ⟨d1,d2,_,_⟩:=two_facts g0;obtain ⟨d3,d4,_,_⟩:=two_facts g1;have hB3:=hB2.trans (hb3.mono hB2.size)))
  | (go_at_call_of 106 (Value.agg #[.bool false,.slice Aq nq cq]);go_must (refine (text_any _ false (X / Y) _ ⟨Aq,nq,cq,rfl,hqq⟩ LQ.out (ht.below hB3)).mono ?_;rintro e w4 ⟨rfl,hb4⟩;rw [HQ.out.1,HQ.out.2];have hB4:=hB3.trans (hb4.mono hB3.size)))
  | (go_at_call_of 106 (Value.agg #[.bool false,.slice Ar nr cr]);go_must (refine (text_any _ false (X % Y) _ ⟨Ar,nr,cr,rfl,hrr.below hb4⟩ LR.out (ht.below hB4)).mono ?_;rintro e w5 ⟨rfl,hb5⟩;rw [HR.out.1,HR.out.2])))
  refine bodyPost_ret (v := .tuple #[.string (S zq),.string (S zr),.int .i64 0]) ?res rfl ⟨rfl,hB4.trans (hb5.mono hB4.size)⟩
  case res=>simp [results,Tryz.f121, go_sem,S]
 ·clear HC;have HQ:Hid (tText (sv true (X / Y))=itoa zq∧tErr (sv true (X / Y))=0):=HQ;go_enter Tryz.func121, Tryz.ntmps121;go_wp2_with (first
  | (go_at_call 104; go_must (refine hbo.mono ?_;rintro e w1 ⟨u,v,rfl,⟨A1,n1,k1,rfl,hu⟩,⟨A2,n2,k2,rfl,hv⟩,hb1⟩;have hn2:0<n2:=(by rcases Nat.eq_zero_or_pos n2 with h | h;exact absurd (hv.zero.1 h) (by omega);exact h);have hn2':((n2:Int) == 0)=false:=(by simp;omega)))
  | (go_at_call 164; obtain ⟨m0,m1⟩:=two_new2 w1 #[.bool false,.slice A1 n1 k1] #[.bool true,.slice A2 n2 k2] 127; have hb2:=below2 w1 (.cells #[.bool false,.slice A1 n1 k1] 127) (.cells #[.bool true,.slice A2 n2 k2] 127);have hu2:=hu.below hb2;have hv2:=hv.below hb2;have hB2:=hb1.trans (hb2.mono hb1.size);generalize ((w1.alloc (.cells #[.bool false,.slice A1 n1 k1] 127)).alloc (.cells #[.bool true,.slice A2 n2 k2] 127))=V at *;go_must (refine (over_any A1 A2 n1 k1 n2 k2 _ _ _ hu2 hv2 LX.out LY.out hY0).mono ?_;rintro e' w3 ⟨Aq,nq,cq,Ar,nr,cr,rfl,hqq,hrr,hb3⟩;have g0:=(hb3.block _ (Array.getElem?_eq_some_iff.1 m0).1).trans m0;have g1:=(hb3.block _ (Array.getElem?_eq_some_iff.1 m1).1).trans m1;obtain ⟨d1,d2,_,_⟩:=two_facts g0;obtain ⟨d3,d4,_,_⟩:=two_facts g1;have hB3:=hB2.trans (hb3.mono hB2.size)))
  | (go_at_call_of 106 (Value.agg #[.bool true,.slice Aq nq cq]);go_must (refine (text_any _ true (X / Y) _ ⟨Aq,nq,cq,rfl,hqq⟩ LQ.out (ht.below hB3)).mono ?_;rintro e w4 ⟨rfl,hb4⟩;rw [HQ.out.1,HQ.out.2];have hB4:=hB3.trans (hb4.mono hB3.size)))
  | (go_at_call_of 106 (Value.agg #[.bool false,.slice Ar nr cr]);go_must (refine (text_any _ false (X % Y) _ ⟨Ar,nr,cr,rfl,hrr.below hb4⟩ LR.out (ht.below hB4)).mono ?_;rintro e w5 ⟨rfl,hb5⟩;rw [HR.out.1,HR.out.2])))
  refine bodyPost_ret (v := .tuple #[.string (S zq),.string (S zr),.int .i64 0]) ?res rfl ⟨rfl,hB4.trans (hb5.mono hB4.size)⟩
  case res=>simp [results,Tryz.f121, go_sem,S]
 ·have HC2:=Lib.hid (HC.out rfl);clear HC;have HQ:Hid (tText (sv true (X / Y))=itoa zq∧tErr (sv true (X / Y))=0):=HQ;go_enter Tryz.func121, Tryz.ntmps121;go_wp2_with (first
  | (go_at_call 104; go_must (refine hbo.mono ?_;rintro e w1 ⟨u,v,rfl,⟨A1,n1,k1,rfl,hu⟩,⟨A2,n2,k2,rfl,hv⟩,hb1⟩;have hn2:0<n2:=(by rcases Nat.eq_zero_or_pos n2 with h | h;exact absurd (hv.zero.1 h) (by omega);exact h);have hn2':((n2:Int) == 0)=false:=(by simp;omega)))
  | (go_at_call 164; obtain ⟨m0,m1⟩:=two_new2 w1 #[.bool true,.slice A1 n1 k1] #[.bool false,.slice A2 n2 k2] 127; have hb2:=below2 w1 (.cells #[.bool true,.slice A1 n1 k1] 127) (.cells #[.bool false,.slice A2 n2 k2] 127);have hu2:=hu.below hb2;have hv2:=hv.below hb2;have hB2:=hb1.trans (hb2.mono hb1.size);generalize ((w1.alloc (.cells #[.bool true,.slice A1 n1 k1] 127)).alloc (.cells #[.bool false,.slice A2 n2 k2] 127))=V at *;go_must (refine (over_any A1 A2 n1 k1 n2 k2 _ _ _ hu2 hv2 LX.out LY.out hY0).mono ?_;rintro e' w3 ⟨Aq,nq,cq,Ar,nr,cr,rfl,hqq,hrr,hb3⟩;have g0:=(hb3.block _ (Array.getElem?_eq_some_iff.1 m0).1).trans m0;have g1:=(hb3.block _ (Array.getElem?_eq_some_iff.1 m1).1).trans m1;obtain ⟨d1,d2,_,_⟩:=two_facts g0;obtain ⟨d3,d4,_,_⟩:=two_facts g1;have hB3:=hB2.trans (hb3.mono hB2.size);obtain rfl:nr=0:=hrr.zero.2 HC2.out))
  | (go_at_call_of 106 (Value.agg #[.bool true,.slice Aq nq cq]);go_must (refine (text_any _ true (X / Y) _ ⟨Aq,nq,cq,rfl,hqq⟩ LQ.out (ht.below hB3)).mono ?_;rintro e w4 ⟨rfl,hb4⟩;rw [HQ.out.1,HQ.out.2];have hB4:=hB3.trans (hb4.mono hB3.size)))
  | (go_at_call_of 106 (Value.agg #[.bool false,.slice Ar 0 cr]);go_must (refine (text_any _ false (X % Y) _ ⟨Ar,0,cr,rfl,hrr.below hb4⟩ LR.out (ht.below hB4)).mono ?_;rintro e w5 ⟨rfl,hb5⟩;rw [HR.out.1,HR.out.2])))
  refine bodyPost_ret (v := .tuple #[.string (S zq),.string (S zr),.int .i64 0]) ?res rfl ⟨rfl,hB4.trans (hb5.mono hB4.size)⟩
  case res=>simp [results,Tryz.f121, go_sem,S]
 ·have HC2:=Lib.hid (HC.out rfl);clear HC;have HQ:Hid (tText (sv false (X / Y))=itoa zq∧tErr (sv false (X / Y))=0):=HQ;go_enter Tryz.func121, Tryz.ntmps121;go_wp2_with (first
  | (go_at_call 104; go_must (refine hbo.mono ?_;rintro e w1 ⟨u,v,rfl,⟨A1,n1,k1,rfl,hu⟩,⟨A2,n2,k2,rfl,hv⟩,hb1⟩;have hn2:0<n2:=(by rcases Nat.eq_zero_or_pos n2 with h | h;exact absurd (hv.zero.1 h) (by omega);exact h);have hn2':((n2:Int) == 0)=false:=(by simp;omega)))
  | (go_at_call 164; obtain ⟨m0,m1⟩:=two_new2 w1 #[.bool true,.slice A1 n1 k1] #[.bool true,.slice A2 n2 k2] 127; have hb2:=below2 w1 (.cells #[.bool true,.slice A1 n1 k1] 127) (.cells #[.bool true,.slice A2 n2 k2] 127);have hu2:=hu.below hb2;have hv2:=hv.below hb2;have hB2:=hb1.trans (hb2.mono hb1.size);generalize ((w1.alloc (.cells #[.bool true,.slice A1 n1 k1] 127)).alloc (.cells #[.bool true,.slice A2 n2 k2] 127))=V at *;go_must (refine (over_any A1 A2 n1 k1 n2 k2 _ _ _ hu2 hv2 LX.out LY.out hY0).mono ?_;rintro e' w3 ⟨Aq,nq,cq,Ar,nr,cr,rfl,hqq,hrr,hb3⟩;have g0:=(hb3.block _ (Array.getElem?_eq_some_iff.1 m0).1).trans m0;have g1:=(hb3.block _ (Array.getElem?_eq_some_iff.1 m1).1).trans m1;obtain ⟨d1,d2,_,_⟩:=two_facts g0;obtain ⟨d3,d4,_,_⟩:=two_facts g1;have hB3:=hB2.trans (hb3.mono hB2.size);obtain rfl:nr=0:=hrr.zero.2 HC2.out))
  | (go_at_call_of 106 (Value.agg #[.bool false,.slice Aq nq cq]);go_must (refine (text_any _ false (X / Y) _ ⟨Aq,nq,cq,rfl,hqq⟩ LQ.out (ht.below hB3)).mono ?_;rintro e w4 ⟨rfl,hb4⟩;rw [HQ.out.1,HQ.out.2];have hB4:=hB3.trans (hb4.mono hB3.size)))
  | (go_at_call_of 106 (Value.agg #[.bool false,.slice Ar 0 cr]);go_must (refine (text_any _ false (X % Y) _ ⟨Ar,0,cr,rfl,hrr.below hb4⟩ LR.out (ht.below hB4)).mono ?_;rintro e w5 ⟨rfl,hb5⟩;rw [HR.out.1,HR.out.2])))
  refine bodyPost_ret (v := .tuple #[.string (S zq),.string (S zr),.int .i64 0]) ?res rfl ⟨rfl,hB4.trans (hb5.mono hB4.size)⟩
  case res=>simp [results,Tryz.f121, go_sem,S]
theorem div_core2 (a b:ByteArray) (dy:Bool) (X Y:Nat) (w:World) (hbo:Calls Tryz.prog 104 #[.string a,.string b] w (BothOk true dy X Y w)) (ht:Tab w)
  (hX:X<10000 ^ 250) (hY:Y<10000 ^ 250) (hXY:X / Y+1<10000 ^ 250) (hY0:0<Y) (hc:X % Y≠0) (zq zr:Int)
  (hq:tText (sv (true != dy) (X / Y+1))=itoa zq∧tErr (sv (true != dy) (X / Y+1))=0) (hr:tText (sv false (Y - X % Y))=itoa zr∧tErr (sv false (Y - X % Y))=0) :
  Calls Tryz.prog 121 #[.string a,.string b] w (DivOk zq zr w):=by
 have LX:=Lib.hid hX;have LY:=Lib.hid hY;have LQ:=Lib.hid hXY;have hlt:=Nat.mod_lt X hY0;have LR:Hid (Y - X % Y<10000 ^ 250):=Lib.hid (Nat.lt_of_le_of_lt (Nat.sub_le _ _) hY);have LQM:Hid (Mod (X / Y)):=Lib.hid (mod_of_pow (Nat.lt_of_succ_lt hXY) (by omega));have LOM:Hid (Mod 1):=Lib.hid (mod_of_pow (K:=1) (by decide) (by omega));have LYM:Hid (Mod Y):=Lib.hid (mod_of_pow hY (by omega));have LRM:Hid (Mod (X % Y)):=Lib.hid (mod_of_pow (Nat.lt_trans hlt hY) (by omega));have LYR:Hid (X % Y≤Y):=Lib.hid (Nat.le_of_lt hlt);have HQ:=Lib.hid hq;have HR:=Lib.hid hr;have HC:=Lib.hid hc;clear hX hY hXY hq hr hc hlt
 cases dy
 ·have HQ:Hid (tText (sv true (X / Y+1))=itoa zq∧tErr (sv true (X / Y+1))=0):=HQ;go_enter Tryz.func121, Tryz.ntmps121;go_wp2_with (first
  | (go_at_call 104; go_must (refine hbo.mono ?_;rintro e w1 ⟨u,v,rfl,⟨A1,n1,k1,rfl,hu⟩,⟨A2,n2,k2,rfl,hv⟩,hb1⟩;have hn2:0<n2:=(by rcases Nat.eq_zero_or_pos n2 with h | h;exact absurd (hv.zero.1 h) (by omega);exact h);have hn2':((n2:Int) == 0)=false:=(by simp;omega)))
  | (go_at_call 164; obtain ⟨m0,m1⟩:=two_new2 w1 #[.bool true,.slice A1 n1 k1] #[.bool false,.slice A2 n2 k2] 127; have hb2:=below2 w1 (.cells #[.bool true,.slice A1 n1 k1] 127) (.cells #[.bool false,.slice A2 n2 k2] 127);have hu2:=hu.below hb2;have hv2:=hv.below hb2;have hB2:=hb1.trans (hb2.mono hb1.size);generalize ((w1.alloc (.cells #[.bool true,.slice A1 n1 k1] 127)).alloc (.cells #[.bool false,.slice A2 n2 k2] 127))=V at *;go_must (refine (over_any A1 A2 n1 k1 n2 k2 _ _ _ hu2 hv2 LX.out LY.out hY0).mono ?_;rintro e' w3 ⟨Aq,nq,cq,Ar,nr,cr,rfl,hqq,hrr,hb3⟩;have g0:=(hb3.block _ (Array.getElem?_eq_some_iff.1 m0).1).trans m0;have g1:=(hb3.block _ (Array.getElem?_eq_some_iff.1 m1).1).trans m1;obtain ⟨d1,d2,_,_⟩:=two_facts g0;obtain ⟨d3,d4,_,_⟩:=two_facts g1;have hB3:=hB2.trans (hb3.mono hB2.size);have hY3:=hv2.below hb3;have hnr:0<nr:=(by rcases Nat.eq_zero_or_pos nr with h | h;exact absurd (hrr.zero.1 h) HC.out;exact h))))
  go_region_held3 (fun U=>U.cell? ⟨w1.heap.size+1,1,none⟩=some (.slice A2 n2 k2)) (first | exact d4 | exact e4 | exact f4 | exact g4) (first
   | (go_at_call 170; refine (one_any _).mono ?_;rintro e w4 ⟨Ao,no,co,rfl,hone,hb4'⟩;have hb4:=below_of_drew hb4';have i1:=(hb4.block _ (Array.getElem?_eq_some_iff.1 g1).1).trans g1;have i0:=(hb4.block _ (Array.getElem?_eq_some_iff.1 g0).1).trans g0;obtain ⟨_,e4,_,_⟩:=two_facts i1;have hB4:=hB3.trans (hb4.mono hB3.size))
   | (go_at_call 156; refine (plus_any Aq Ao nq cq no co _ _ _ (by exact hqq.below hb4) (by exact hone) LQM.out LOM.out).mono ?_;rintro e w5 ⟨As,ns,cs,rfl,hss,hb5⟩;have j1:=(hb5.block _ (Array.getElem?_eq_some_iff.1 i1).1).trans i1;have j0:=(hb5.block _ (Array.getElem?_eq_some_iff.1 i0).1).trans i0;obtain ⟨_,f4,_,_⟩:=two_facts j1;have hB5:=hB4.trans (hb5.mono hB4.size))
   | (go_at_call 158; refine (minus_any A2 Ar n2 k2 nr cr _ _ _ (by exact (hY3.below hb4).below hb5) (by exact (hrr.below hb4).below hb5) LYM.out LRM.out LYR.out).mono ?_;rintro e w6 ⟨Ad,nd,cd,rfl,hdd,hb6⟩;have q1:=(hb6.block _ (Array.getElem?_eq_some_iff.1 j1).1).trans j1;have q0:=(hb6.block _ (Array.getElem?_eq_some_iff.1 j0).1).trans j0;obtain ⟨q3,q4,_,_⟩:=two_facts q1;obtain ⟨q5,q6,_,_⟩:=two_facts q0;have g4:=q4;have hB6:=hB5.trans (hb6.mono hB5.size)))
  go_wp2_with (first
  | (go_at_call_of 106 (Value.agg #[.bool true,.slice As ns cs]);go_must (refine (text_any _ true (X / Y+1) _ ⟨As,ns,cs,rfl,hss.below hb6⟩ LQ.out (ht.below hB6)).mono ?_;rintro e w7 ⟨rfl,hb7⟩;rw [HQ.out.1,HQ.out.2];have hB7:=hB6.trans (hb7.mono hB6.size)))
  | (go_at_call_of 106 (Value.agg #[.bool false,.slice Ad nd cd]);go_must (refine (text_any _ false (Y - X % Y) _ ⟨Ad,nd,cd,rfl,hdd.below hb7⟩ LR.out (ht.below hB7)).mono ?_;rintro e w8 ⟨rfl,hb8⟩;rw [HR.out.1,HR.out.2])))
  refine bodyPost_ret (v := .tuple #[.string (S zq),.string (S zr),.int .i64 0]) ?res rfl ⟨rfl,hB7.trans (hb8.mono hB7.size)⟩
  case res=>simp [results,Tryz.f121, go_sem,S]
 ·have HQ:Hid (tText (sv false (X / Y+1))=itoa zq∧tErr (sv false (X / Y+1))=0):=HQ;go_enter Tryz.func121, Tryz.ntmps121;go_wp2_with (first
  | (go_at_call 104; go_must (refine hbo.mono ?_;rintro e w1 ⟨u,v,rfl,⟨A1,n1,k1,rfl,hu⟩,⟨A2,n2,k2,rfl,hv⟩,hb1⟩;have hn2:0<n2:=(by rcases Nat.eq_zero_or_pos n2 with h | h;exact absurd (hv.zero.1 h) (by omega);exact h);have hn2':((n2:Int) == 0)=false:=(by simp;omega)))
  | (go_at_call 164; obtain ⟨m0,m1⟩:=two_new2 w1 #[.bool true,.slice A1 n1 k1] #[.bool true,.slice A2 n2 k2] 127; have hb2:=below2 w1 (.cells #[.bool true,.slice A1 n1 k1] 127) (.cells #[.bool true,.slice A2 n2 k2] 127);have hu2:=hu.below hb2;have hv2:=hv.below hb2;have hB2:=hb1.trans (hb2.mono hb1.size);generalize ((w1.alloc (.cells #[.bool true,.slice A1 n1 k1] 127)).alloc (.cells #[.bool true,.slice A2 n2 k2] 127))=V at *;go_must (refine (over_any A1 A2 n1 k1 n2 k2 _ _ _ hu2 hv2 LX.out LY.out hY0).mono ?_;rintro e' w3 ⟨Aq,nq,cq,Ar,nr,cr,rfl,hqq,hrr,hb3⟩;have g0:=(hb3.block _ (Array.getElem?_eq_some_iff.1 m0).1).trans m0;have g1:=(hb3.block _ (Array.getElem?_eq_some_iff.1 m1).1).trans m1;obtain ⟨d1,d2,_,_⟩:=two_facts g0;obtain ⟨d3,d4,_,_⟩:=two_facts g1;have hB3:=hB2.trans (hb3.mono hB2.size);have hY3:=hv2.below hb3;have hnr:0<nr:=(by rcases Nat.eq_zero_or_pos nr with h | h;exact absurd (hrr.zero.1 h) HC.out;exact h))))
  go_region_held3 (fun U=>U.cell? ⟨w1.heap.size+1,1,none⟩=some (.slice A2 n2 k2)) (first | exact d4 | exact e4 | exact f4 | exact g4) (first
   | (go_at_call 170; refine (one_any _).mono ?_;rintro e w4 ⟨Ao,no,co,rfl,hone,hb4'⟩;have hb4:=below_of_drew hb4';have i1:=(hb4.block _ (Array.getElem?_eq_some_iff.1 g1).1).trans g1;have i0:=(hb4.block _ (Array.getElem?_eq_some_iff.1 g0).1).trans g0;obtain ⟨_,e4,_,_⟩:=two_facts i1;have hB4:=hB3.trans (hb4.mono hB3.size))
   | (go_at_call 156; refine (plus_any Aq Ao nq cq no co _ _ _ (by exact hqq.below hb4) (by exact hone) LQM.out LOM.out).mono ?_;rintro e w5 ⟨As,ns,cs,rfl,hss,hb5⟩;have j1:=(hb5.block _ (Array.getElem?_eq_some_iff.1 i1).1).trans i1;have j0:=(hb5.block _ (Array.getElem?_eq_some_iff.1 i0).1).trans i0;obtain ⟨_,f4,_,_⟩:=two_facts j1;have hB5:=hB4.trans (hb5.mono hB4.size))
   | (go_at_call 158; refine (minus_any A2 Ar n2 k2 nr cr _ _ _ (by exact (hY3.below hb4).below hb5) (by exact (hrr.below hb4).below hb5) LYM.out LRM.out LYR.out).mono ?_;rintro e w6 ⟨Ad,nd,cd,rfl,hdd,hb6⟩;have q1:=(hb6.block _ (Array.getElem?_eq_some_iff.1 j1).1).trans j1;have q0:=(hb6.block _ (Array.getElem?_eq_some_iff.1 j0).1).trans j0;obtain ⟨q3,q4,_,_⟩:=two_facts q1;obtain ⟨q5,q6,_,_⟩:=two_facts q0;have g4:=q4;have hB6:=hB5.trans (hb6.mono hB5.size)))
  go_wp2_with (first
  | (go_at_call_of 106 (Value.agg #[.bool false,.slice As ns cs]);go_must (refine (text_any _ false (X / Y+1) _ ⟨As,ns,cs,rfl,hss.below hb6⟩ LQ.out (ht.below hB6)).mono ?_;rintro e w7 ⟨rfl,hb7⟩;rw [HQ.out.1,HQ.out.2];have hB7:=hB6.trans (hb7.mono hB6.size)))
  | (go_at_call_of 106 (Value.agg #[.bool false,.slice Ad nd cd]);go_must (refine (text_any _ false (Y - X % Y) _ ⟨Ad,nd,cd,rfl,hdd.below hb7⟩ LR.out (ht.below hB7)).mono ?_;rintro e w8 ⟨rfl,hb8⟩;rw [HR.out.1,HR.out.2])))
  refine bodyPost_ret (v := .tuple #[.string (S zq),.string (S zr),.int .i64 0]) ?res rfl ⟨rfl,hB7.trans (hb8.mono hB7.size)⟩
  case res=>simp [results,Tryz.f121, go_sem,S]
theorem text_fit {neg:Bool} {q:Nat} {z:Int} (h:sv neg q=z) (hf:Fits z):tText (sv neg q)=itoa z∧tErr (sv neg q)=0:=by
 rw [h];exact ⟨by unfold tText;rw [if_pos hf],by unfold tErr;rw [if_pos hf]⟩
theorem sv_if (x y:Int) (q:Nat):sv (decide (x<0) != decide (y<0)) q=if (x<0 ↔ y<0) then (q:Int) else -(q:Int):=by
 by_cases h1:x<0 <;> by_cases h2:y<0 <;> simp [sv,h1,h2]
theorem div_ok (a b:ByteArray) (x y:Int) (w:World) (ht:Tab w) (ha:a.data.toList=itoa x) (hb:b.data.toList=itoa y) (hx:Fits x) (hy:Fits y) (hy0:y≠0) (hsa:Str a) (hsb:Str b) :
  Calls Tryz.prog 121 #[.string a,.string b] w (DivOk (x / y) (x % y) w):=by
 obtain ⟨lx,ly,_⟩:=mul_lt hx hy;obtain ⟨fq,fr⟩:=div_fits hx hy hy0;have hY:0<y.natAbs:=by omega
 have hbo:Calls Tryz.prog 104 #[.string a,.string b] w (BothOk (decide (x<0)) (decide (y<0)) x.natAbs y.natAbs w):=both_ok a b x y w ha hb hx hy hsa hsb;by_cases hc:0≤x∨x.natAbs % y.natAbs=0
 ·obtain ⟨h1,h2⟩:=div_plain x y hy0 hc;refine div_core1 a b (decide (x<0)) (decide (y<0)) _ _ w hbo ht lx ly (Nat.lt_of_le_of_lt (Nat.div_le_self _ _) lx) (Nat.lt_trans (Nat.mod_lt _ hY) ly) hY ?_ _ _ (text_fit (by rw [sv_if];exact h1) fq) (text_fit (by simpa [sv] using h2) fr);rcases hc with h | h
  ·exact .inl (by simpa using h)
  ·exact .inr h
 ·have hx0:x<0:=by omega
  have hR:x.natAbs % y.natAbs≠0:=fun e=>hc (.inr e)
  obtain ⟨h1,h2⟩:=div_fixed x y hy0 hx0 hR;rw [decide_eq_true hx0] at hbo;have hX1:x.natAbs / y.natAbs+1<10000 ^ 250:=by
   have h3:x.natAbs / y.natAbs≤x.natAbs:=Nat.div_le_self _ _;have h4:x.natAbs<10 ^ 200:=hx;have h5:(10:Nat) ^ 200+1<10000 ^ 250:=by decide +kernel
   generalize (10:Nat) ^ 200=T at *;generalize (10000:Nat) ^ 250=U at *;omega
  exact div_core2 a b (decide (y<0)) _ _ w hbo ht lx ly hX1 hY hR _ _ (text_fit (by have:=sv_if x y (x.natAbs / y.natAbs+1);rw [decide_eq_true hx0] at this;rw [this];exact h1) fq) (text_fit (by simpa [sv] using h2) fr)
end Go.Proofs.YtdikaoahgleffaaGreatDoor
namespace Go.Proofs.YtdikaoahgleffaaGreatDoor
open Go Go.RowKit Go.Lib Go.Shelf
theorem is_zero:(⟨#[48]⟩:ByteArray).data.toList=itoa 0:=by rw [show (0:Int)=((0:Nat):Int) from rfl,itoa_nn,decDigits_zero]
theorem str_zero:Str (⟨#[48]⟩:ByteArray):=by show (1:Nat)≤_;omega
theorem fits_zero:Fits 0:=by unfold Fits;decide
theorem make_half (n K:Nat) (hK:K=(n+1) / 2) (hn:n≤1000000) (i:TypeInfo) (hi:Tryz.prog.info? 3 = some i) (hz:i.zero=some (.int .i64 0)) (hs:i.size=1) (hb:i.bytes=8) :
  ∀ W:World,(Instr.makeSlice 125 (.int .i64 (((n:Int)+1) / 2)) (.int .i64 (((n:Int)+1) / 2))).run Tryz.prog W = .ok (.slice (some ⟨W.heap.size,0,none⟩) K K) (W.alloc (.cells (ints (List.replicate K 0)).toArray 3)):=by
 intro W;rw [show ((n:Int)+1) / 2=(K:Int) by omega];exact run_make_zeros (P:=Tryz.prog) 125 3 i Tryz.underlying125 hi hz hs hb K (by omega) W
theorem own_zeros (V:World) (K b:Nat) (hK:K≤1000) (hb:V.heap.size=b):(V.alloc (.cells (ints (List.replicate K 0)).toArray 3)).ownsRow V.heap.size 3 1 (.slice (some ⟨b,0,none⟩) K K) K (ints (List.replicate K 0)):=by
 subst hb;have:=World.ownsRow_lit (base:=V.heap.size) (e := 3) (size:=1) V (ints (List.replicate K 0)).toArray K (Nat.le_refl _) (by unfold maxLen;omega) (by simp [ints]);simpa using this
theorem cell_one_new' (W:World) (v:Value) (t:TypeId) (b:Nat) (hb:b=W.heap.size):∀ j u,[v][j]? = some u→(W.alloc (.cells #[v] t)).cell? ((⟨b,0,none⟩:Addr).add j)=some u:=by
 subst hb;exact cell_one_new W v t
theorem lit_two (w:World):IsNum (w.alloc (.cells #[.int .i64 2] 3)) (some ⟨w.heap.size,0,none⟩) 1 1 2:=by
 have hlit:=World.ownsRow_lit (base:=w.heap.size) (e := 3) (size:=1) w #[.int .i64 2] 1 (Nat.le_refl _) (by unfold maxLen;omega) rfl;exact ⟨[2],Reads.of_own hlit,⟨Small.mk (by decide) small_nil,by decide⟩,by simp [val],Nat.le_refl _⟩
theorem two_lt:2<10000 ^ 250:=by decide +kernel
theorem newton_lt (X R:Nat) (hR:R<10000 ^ 200) (hX:Fits X):R<10000 ^ 250∧X / R<10000 ^ 250∧R+X / R<10000 ^ 250:=by
 have h1:(10:Nat) ^ 200+10000 ^ 200≤10000 ^ 250:=by decide +kernel
 have h2:X / R≤X:=Nat.div_le_self _ _;unfold Fits at hX;rw [Int.natAbs_natCast] at hX;generalize (10:Nat) ^ 200=T at *;generalize (10000:Nat) ^ 200=T2 at *;generalize (10000:Nat) ^ 250=U at *;omega
theorem newton_pos {X N:Nat} (hX:0<X) (h:X<(N+1) * (N+1)):0<N:=by
 rcases Nat.eq_zero_or_pos N with e | e
 ·subst e;omega
 ·exact e
theorem root_text {X R:Nat} (hX:Fits X) (h:R * R≤X):tText (sv false R)=itoa R∧tErr (sv false R)=0:=by
 refine text_fit (by simp [sv]) ?_;unfold Fits at *;rw [Int.natAbs_natCast] at *;have:R≤R * R:=Nat.le_mul_self R;omega
def RootOk (X:Nat) (w:World) (e:Ending) (w':World):Prop:=∃ r:Nat,e = .returned (.tuple #[.string (S r),.int .i64 0])∧IsRoot X r∧Below w.heap.size w w'
theorem start_num {w:World} {base k c:Nat} {A:Option Addr} (h:w.ownsRow base 3 1 (.slice A (k+1) c) (k+1) (ints (List.replicate k 0) ++ [.int .i64 1])):IsNum w A (k+1) c (10000 ^ k):=by
 have e:ints (List.replicate k 0) ++ [.int .i64 1]=ints (List.replicate k 0 ++ [1]):=by rw [ints_append];rfl
 rw [e] at h;refine ⟨_,Reads.of_own h,⟨?_,by simp⟩,?_,own_le h⟩
 ·refine Small.append (fun d hd => ?_) (Small.mk (by decide) small_nil);obtain ⟨_,rfl⟩:=List.mem_replicate.1 hd;decide
 ·rw [val_snoc,List.length_replicate,Nat.one_mul];have:∀ k,val (List.replicate k 0)=0:=by
   intro k
   induction k with
   | zero=>rfl
   | succ k ih=>rw [List.replicate_succ];simp [val,ih]
  rw [this,Nat.zero_add]
theorem root_pos (a:ByteArray) (X:Nat) (w:World) (ht:Tab w) (ha:a.data.toList=itoa X) (hx:Fits X) (hX0:0<X) (hsa:Str a) :
  Calls Tryz.prog 175 #[.string a] w (RootOk X w):=by
 obtain ⟨lx,_,_⟩:=mul_lt hx hx;rw [Int.natAbs_natCast] at lx;have LX:=Lib.hid lx;clear lx;have hbo:=both_ok a ⟨#[48]⟩ X 0 w ha is_zero hx fits_zero hsa str_zero;rw [decide_eq_false (show ¬ (X:Int)<0 by omega),Int.natAbs_natCast] at hbo;obtain ⟨i0,hi,hz0,hz1,hz2⟩:=info_parts intInfo;go_enter Tryz.func175, Tryz.ntmps175;go_wp2_with (first
  | (go_at_call 104; go_must (refine hbo.mono ?_;rintro e w1 ⟨u,v,rfl,⟨A1,n1,k1,rfl,hu⟩,⟨A2,n2,k2,rfl,hv⟩,hb1⟩;have hn1:=hu.le LX.out;have hn0:0<n1:=(by rcases Nat.eq_zero_or_pos n1 with h | h;exact absurd (hu.zero.1 h) (by omega);exact h);obtain ⟨K,hK⟩:∃ K,K=(n1+1) / 2:=⟨_,rfl⟩;have hmk:=make_half n1 K hK (by omega) i0 hi hz0 hz1 hz2;have HK:=Lib.hid hK;have hK1:K≤1000:=(by omega);clear hK))
  | (at_builtin;obtain ⟨m0,m1⟩:=two_new2 w1 #[.bool false,.slice A1 n1 k1] #[.bool false,.slice A2 n2 k2] 127; have hb2:=below2 w1 (.cells #[.bool false,.slice A1 n1 k1] 127) (.cells #[.bool false,.slice A2 n2 k2] 127);have hu2:=hu.below hb2;have hB2:=hb1.trans (hb2.mono hb1.size);have hVs:((w1.alloc (.cells #[.bool false,.slice A1 n1 k1] 127)).alloc (.cells #[.bool false,.slice A2 n2 k2] 127)).heap.size=w1.heap.size+1+1:=(by simp);have HVs:=Lib.hid hVs;clear hVs;generalize ((w1.alloc (.cells #[.bool false,.slice A1 n1 k1] 127)).alloc (.cells #[.bool false,.slice A2 n2 k2] 127))=V at *;refine wpList_append_own _ rfl (.tmp 29) (.tmp 30) 125 rfl V.heap.size 3 i0 (.int .i64 0) 1 8 Tryz.underlying125 hi hz0 hz1 hz2 rfl (by decide) (.slice (some ⟨w1.heap.size+1+1,0,none⟩) K K) K _ rfl ((own_zeros V K _ hK1 HVs.out).alloc _) ⟨w1.heap.size+1+1+1,0,none⟩ 1 1 [.int .i64 1] rfl rfl (cell_one_new' _ _ _ _ (by simp [HVs.out])) (by simp [Value.oneCell']) (by unfold maxLen;omega) (by omega) (by simp;omega) ?_;intro v' w3 hown3 hgrow3 _;obtain ⟨A3,c3,rfl⟩:=own_slice hown3))
 have hs3:IsNum w3 A3 (K+1) c3 (10000 ^ K):=start_num hown3;have hb3:Below V.heap.size V w3:=(((Below.refl _ _).alloc (Nat.le_refl _) _).alloc (by simp) _).grown hgrow3 (by simp;omega) (by simp [Value.ownBlock,HVs.out]);have hstart:Hid (X<(10000 ^ K+1) * (10000 ^ K+1)):=Lib.hid (newton_start X K (by
  obtain ⟨l,h1,h2,h3,_⟩:=hu;have h4:=val_lt h2.1;rw [h3,← h1.len] at h4;have h5:(10000:Nat) ^ n1≤10000 ^ (2 * K):=Nat.pow_le_pow_right (by decide) (by have:=HK.out;omega);exact Nat.lt_of_lt_of_le h4 h5))
 have hpow:Hid ((10000:Nat) ^ K<10000 ^ 200):=Lib.hid (Nat.pow_lt_pow_right (by decide) (by have:=HK.out;omega));have hpos:Hid (0<(10000:Nat) ^ K):=Lib.hid (Nat.pow_pos (by decide));clear hown3 hgrow3 hmk;go_loopw [7] (fun v wr=>∃ (A:Option Addr) (n c R:Nat),v = .slice A n c∧IsNum wr A n c R∧Hid (X<(R+1) * (R+1))∧Hid (R<10000 ^ 200)∧Hid (0<R)∧Below V.heap.size V wr)
  (fun v wr=>numOf wr v)
 case atStart=>exact ⟨A3,K+1,c3,10000 ^ K,rfl,hs3,hstart,hpow,hpos,hb3⟩
 case round =>
  obtain ⟨A,n,c,R,rfl,hR,hab,hlt,hR0,hBr⟩:=hrel;have g0:=(hBr.block _ (Array.getElem?_eq_some_iff.1 m0).1).trans m0;obtain ⟨c1,c2,_,_⟩:=two_facts g0;have hur:=hu2.below hBr;obtain ⟨ltR,ltQ,ltS⟩:=newton_lt X R hlt.out hx;have LTR:=Lib.hid ltR;have LTS:=Lib.hid ltS;have mR:Hid (Mod R):=Lib.hid (mod_of_pow ltR (by omega));have mQ:Hid (Mod (X / R)):=Lib.hid (mod_of_pow ltQ (by omega));obtain ⟨N,hN⟩:∃ N,N=(R+X / R) / 2:=⟨_,rfl⟩
  have hN1:N<10000 ^ 250:=by rw [hN];exact Nat.lt_of_le_of_lt (Nat.div_le_self _ _) ltS
  have mN:Hid (Mod N):=Lib.hid (mod_of_pow hN1 (by omega));have HN:=Lib.hid hN;clear ltR ltQ ltS hN hN1;by_cases hstop:R≤N
  ·have hcz:0≤cmpZ (N:Int) (R:Int):=by unfold cmpZ;split <;> (try split) <;> omega
   have HT:=Lib.hid (root_text hx (newton_stop X R (by rw [← HN.out];exact hstop)));have HS:Hid (IsRoot X R):=Lib.hid ⟨newton_stop X R (by rw [← HN.out];exact hstop),hab.out⟩;clear hstop;go_wp2_with (go_at_call_of 164 (Value.slice A1 n1 k1);go_must (refine (over_any A1 A n1 k1 n c X R _ hur hR LX.out LTR.out hR0.out).mono ?_;rintro e w4 ⟨Aq,nq,cq,Ar,nr,cr,rfl,hqq,_,hb4⟩));go_wp2_with (go_at_call 156; go_must (refine (plus_any A Aq n c nq cq _ _ _ (hR.below hb4) hqq mR.out mQ.out).mono ?_;rintro e w5 ⟨As,ns,cs,rfl,hss,hb5⟩));go_wp2_with (go_at_call_of 164 (Value.slice As ns cs);go_must (refine (over_any As (some ⟨w5.heap.size,0,none⟩) ns cs 1 1 (R+X / R) 2 _ (hss.alloc _) (lit_two w5) LTS.out two_lt (by decide)).mono ?_;rintro e w6 ⟨An,nn,cn,Ax,nx,cx,rfl,hnn,_,hb6⟩;rw [← HN.out] at hnn;have hb56:Below w5.heap.size w5 w6:=((Below.refl _ w5).alloc (Nat.le_refl _) _).trans (hb6.mono (by simp));have hR6:=((hR.below hb4).below hb5).below hb56));go_wp2_with (go_at_call 157; go_must (refine (compare_any An A nn cn n c N R _ hnn hR6 mN.out mR.out).mono ?_;rintro e w7 ⟨rfl,hb7⟩;have hB4:=hBr.trans (hb4.mono hBr.size);have hB5:=hB4.trans (hb5.mono hB4.size);have hB6:=hB5.trans (hb56.mono hB5.size);have hB7:=hB6.trans (hb7.mono hB6.size);have hBw7:=hB2.trans (hB7.mono hB2.size)));go_wp2_with (go_at_call 106; go_must (refine (text_any _ false R _ ⟨A,n,c,rfl,(hR6.below hb7)⟩ LTR.out (ht.below hBw7)).mono ?_;rintro e w8 ⟨rfl,hb8⟩;rw [HT.out.1,HT.out.2]))
   refine bodyPost_ret (v := .tuple #[.string (S R),.int .i64 0]) ?res rfl ⟨R,rfl,HS.out,hBw7.trans (hb8.mono hBw7.size)⟩
   case res=>simp [results,Tryz.f175, go_sem,S]
  ·have hcz:cmpZ (N:Int) (R:Int)<0:=by unfold cmpZ;split <;> (try split) <;> omega
   have hNR:Hid (N<R):=Lib.hid (by omega);have hN0:Hid (0<N):=Lib.hid (newton_pos hX0 (by have:=newton_above X R hR0.out;rw [← HN.out] at this;exact this));clear hstop;go_wp2_with (go_at_call_of 164 (Value.slice A1 n1 k1);go_must (refine (over_any A1 A n1 k1 n c X R _ hur hR LX.out LTR.out hR0.out).mono ?_;rintro e w4 ⟨Aq,nq,cq,Ar,nr,cr,rfl,hqq,_,hb4⟩));go_wp2_with (go_at_call 156; go_must (refine (plus_any A Aq n c nq cq _ _ _ (hR.below hb4) hqq mR.out mQ.out).mono ?_;rintro e w5 ⟨As,ns,cs,rfl,hss,hb5⟩));go_wp2_with (go_at_call_of 164 (Value.slice As ns cs);go_must (refine (over_any As (some ⟨w5.heap.size,0,none⟩) ns cs 1 1 (R+X / R) 2 _ (hss.alloc _) (lit_two w5) LTS.out two_lt (by decide)).mono ?_;rintro e w6 ⟨An,nn,cn,Ax,nx,cx,rfl,hnn,_,hb6⟩;rw [← HN.out] at hnn;have hb56:Below w5.heap.size w5 w6:=((Below.refl _ w5).alloc (Nat.le_refl _) _).trans (hb6.mono (by simp));have hR6:=((hR.below hb4).below hb5).below hb56));go_wp2_with (go_at_call 157; go_must (refine (compare_any An A nn cn n c N R _ hnn hR6 mN.out mR.out).mono ?_;rintro e w7 ⟨rfl,hb7⟩;have hB4:=hBr.trans (hb4.mono hBr.size);have hB5:=hB4.trans (hb5.mono hB4.size);have hB6:=hB5.trans (hb56.mono hB5.size);have hB7:=hB6.trans (hb7.mono hB6.size);have hBw7:=hB2.trans (hB7.mono hB2.size)));go_roundw
   case rel=>exact ⟨An,nn,cn,N,rfl,hnn.below hb7,Lib.hid (by have:=newton_above X R hR0.out;rw [← HN.out] at this;exact this),Lib.hid (Nat.lt_trans hNR.out hlt.out),hN0,hB7⟩
   case measure=>rw [numOf_eq (hnn.below hb7),numOf_eq hR];exact hNR.out
end Go.Proofs.YtdikaoahgleffaaGreatDoor
namespace Go.Proofs.YtdikaoahgleffaaGreatDoor
open Go Go.RowKit Go.Lib Go.Shelf
theorem S_zero:S 0=⟨#[48]⟩:=by
 unfold S;rw [← is_zero]
theorem root_zero (a:ByteArray) (w:World) (ha:a.data.toList=itoa 0) (hsa:Str a) :
  Calls Tryz.prog 175 #[.string a] w (RootOk 0 w):=by
 have hbo:=both_ok a ⟨#[48]⟩ 0 0 w ha is_zero fits_zero fits_zero hsa str_zero;obtain ⟨i0,hi,hz0,hz1,hz2⟩:=info_parts intInfo;have hmk:∀ W:World,(Instr.makeSlice 125 (.int .i64 0) (.int .i64 0)).run Tryz.prog W = .ok (.slice (some ⟨W.heap.size,0,none⟩) 0 0) (W.alloc (.cells #[] 3)):=fun W=>make_half 0 0 rfl (by omega) i0 hi hz0 hz1 hz2 W
 go_enter Tryz.func175, Tryz.ntmps175;go_wp2_with (first
  | (go_at_call 104; go_must (refine hbo.mono ?_;rintro e w1 ⟨u,v,rfl,⟨A1,n1,k1,rfl,hu⟩,⟨A2,n2,k2,rfl,hv⟩,hb1⟩;obtain rfl:n1=0:=hu.zero.2 rfl))
  | (at_builtin;obtain ⟨m0,m1⟩:=two_new2 w1 #[.bool false,.slice A1 0 k1] #[.bool false,.slice A2 n2 k2] 127; have hb2:=below2 w1 (.cells #[.bool false,.slice A1 0 k1] 127) (.cells #[.bool false,.slice A2 n2 k2] 127);have hB2:=hb1.trans (hb2.mono hb1.size);have hVs:((w1.alloc (.cells #[.bool false,.slice A1 0 k1] 127)).alloc (.cells #[.bool false,.slice A2 n2 k2] 127)).heap.size=w1.heap.size+1+1:=(by simp);have HVs:=Lib.hid hVs;clear hVs;generalize ((w1.alloc (.cells #[.bool false,.slice A1 0 k1] 127)).alloc (.cells #[.bool false,.slice A2 n2 k2] 127))=V at *;refine wpList_append_own _ rfl (.tmp 29) (.tmp 30) 125 rfl V.heap.size 3 i0 (.int .i64 0) 1 8 Tryz.underlying125 hi hz0 hz1 hz2 rfl (by decide) (.slice (some ⟨w1.heap.size+1+1,0,none⟩) 0 0) 0 _ rfl ((own_zeros V 0 _ (by omega) HVs.out).alloc _) ⟨w1.heap.size+1+1+1,0,none⟩ 1 1 [.int .i64 1] rfl rfl (cell_one_new' _ _ _ _ (by simp [HVs.out])) (by simp [Value.oneCell']) (by unfold maxLen;omega) (by omega) (by simp;omega) ?_;intro v' w3 hown3 hgrow3 _;obtain ⟨A3,c3,rfl⟩:=own_slice hown3;have hb3:Below V.heap.size V w3:=(((Below.refl _ _).alloc (Nat.le_refl _) _).alloc (by simp) _).grown hgrow3 (by simp;omega) (by simp [Value.ownBlock,HVs.out]);have g0:=(hb3.block _ (Array.getElem?_eq_some_iff.1 m0).1).trans m0;obtain ⟨c1,c2,_,_⟩:=two_facts g0))
 go_loopw [7] (fun _ wr=>wr=w3) (fun _ _=>0)
 case atStart=>rfl
 case round =>
  subst hrel;go_wp2;refine bodyPost_ret (v := .tuple #[.string (S 0),.int .i64 0]) ?res rfl ⟨0,rfl,⟨by omega,by omega⟩,hB2.trans (hb3.mono hB2.size)⟩
  case res=>simp [results,Tryz.f175, go_sem,S_zero]
structure Env (w:World):Prop where
 tab:Tab w
 syn:∃ te pe,w.cell? ⟨2, 0,none⟩=some (.iface te pe)
 rng:∃ te pe,w.cell? ⟨3, 0,none⟩=some (.iface te pe)
theorem Env.below {w w':World} (h:Env w) (hb:Below w.heap.size w w'):Env w':=by
 obtain ⟨h1,⟨t1,p1,h2⟩,⟨t2,p2,h3⟩⟩:=h;exact ⟨h1.below hb,⟨t1,p1,(hb.cell (World.block_lt_of_cell? _ _ h2)).trans h2⟩,⟨t2,p2,(hb.cell (World.block_lt_of_cell? _ _ h3)).trans h3⟩⟩
end Go.Proofs.YtdikaoahgleffaaGreatDoor
namespace Go.Proofs.YtdikaoahgleffaaGreatDoor
open Go Go.RowKit Go.Lib Go.Shelf
theorem is_lit {a:ByteArray} {z:Int} (h:validB a.data.toList=true) (hz:zOf a.data.toList=z):Is a z:=by
 obtain ⟨y,_,e⟩:=validB_elim _ h;rw [e,zOf_itoa] at hz;subst hz;exact e
theorem Is.str {a:ByteArray} {z:Int} (h:Is a z) (hf:Fits z):Str a:=by
 have:=S_size hf;rw [h.eq];unfold Str;omega
theorem Is.valid {a:ByteArray} {z:Int} (h:Is a z) (hf:Fits z):validB a.data.toList=true:=by
 unfold Is at h;rw [h];exact validB_itoa z hf
def StrOk (z:Int) (w:World) (e:Ending) (w':World):Prop:=e = .returned (.tuple #[.string (S z),.int .i64 0])∧Below w.heap.size w w'
theorem tText_fit {z:Int} (h:Fits z):(⟨(tText z).toArray⟩:ByteArray)=S z:=by unfold tText S;rw [if_pos h]
theorem tErr_fit {z:Int} (h:Fits z):tErr z=0:=by unfold tErr;rw [if_pos h]
theorem tText_big {z:Int} (h:¬ Fits z):tText z=[]:=by unfold tText;rw [if_neg h]
theorem tErr_big {z:Int} (h:¬ Fits z):tErr z=30:=by unfold tErr;rw [if_neg h]
theorem addS {a b:ByteArray} {x y v:Int} (ha:Is a x) (hb:Is b y) (hv:Hid (x+y=v)) (hx:Fits x) (hy:Fits y) (hf:Fits v) (w:World) (he:Env w) :
  Calls Tryz.prog 37 #[.string a,.string b] w (StrOk v w):=by
 have:=add_ok a b x y w he.tab ha hb hx hy (ha.str hx) (hb.str hy);rw [hv.out,tText_fit hf,tErr_fit hf] at this;exact this
theorem subS {a b:ByteArray} {x y v:Int} (ha:Is a x) (hb:Is b y) (hv:Hid (x - y=v)) (hx:Fits x) (hy:Fits y) (hf:Fits v) (w:World) (he:Env w) :
  Calls Tryz.prog 38 #[.string a,.string b] w (StrOk v w):=by
 have:=sub_ok a b x y w he.tab ha hb hx hy (ha.str hx) (hb.str hy);rw [hv.out,tText_fit hf,tErr_fit hf] at this;exact this
theorem mulS {a b:ByteArray} {x y v:Int} (ha:Is a x) (hb:Is b y) (hv:Hid (x * y=v)) (hx:Fits x) (hy:Fits y) (hf:Fits v) (w:World) (he:Env w) :
  Calls Tryz.prog 110 #[.string a,.string b] w (StrOk v w):=by
 have:=mul_ok a b x y w he.tab ha hb hx hy (ha.str hx) (hb.str hy);rw [hv.out,tText_fit hf,tErr_fit hf] at this;exact this
theorem divS {a b:ByteArray} {x y q r:Int} (ha:Is a x) (hb:Is b y) (hq:Hid (x / y=q)) (hr:Hid (x % y=r)) (hx:Fits x) (hy:Fits y) (hy0:Hid (y≠0)) (w:World) (he:Env w) :
  Calls Tryz.prog 121 #[.string a,.string b] w (DivOk q r w):=by
 have:=div_ok a b x y w he.tab ha hb hx hy hy0.out (ha.str hx) (hb.str hy);rw [hq.out,hr.out] at this;exact this
theorem gcdS {a b:ByteArray} {x y v:Int} (ha:Is a x) (hb:Is b y) (hv:Hid (((x.natAbs.gcd y.natAbs:Nat):Int)=v)) (hx:Fits x) (hy:Fits y) (w:World) (he:Env w) :
  Calls Tryz.prog 109 #[.string a,.string b] w (StrOk v w):=by
 have:=gcd_ok a b x y w he.tab ha hb hx hy (ha.str hx) (hb.str hy);rw [hv.out] at this;exact this
theorem rootS {a:ByteArray} {x r:Int} (ha:Is a x) (hr:Hid (0≤x∧0≤r∧IsRoot x.natAbs r.natAbs)) (hx:Fits x) (w:World) (he:Env w) :
  Calls Tryz.prog 175 #[.string a] w (StrOk r w):=by
 obtain ⟨h1,h2,h3⟩:=hr.out;obtain ⟨X,rfl⟩:∃ X:Nat,x=X:=⟨x.natAbs,by omega⟩
 obtain ⟨R,rfl⟩:∃ R:Nat,r=R:=⟨r.natAbs,by omega⟩
 rw [Int.natAbs_natCast,Int.natAbs_natCast] at h3;have key:Calls Tryz.prog 175 #[.string a] w (RootOk X w):=by
  rcases Nat.eq_zero_or_pos X with h0 | h0
  ·subst h0;exact root_zero a w ha (ha.str hx)
  ·exact root_pos a X w he.tab ha hx h0 (ha.str hx)
 refine key.mono ?_;rintro e w' ⟨s,rfl,hs,hb⟩;rw [hs.unique h3];exact ⟨rfl,hb⟩
def CmpOk (c:Int) (w:World) (e:Ending) (w':World):Prop:=e = .returned (.int .i64 c)∧Below w.heap.size w w'
theorem cmpS {a b:ByteArray} {x y c:Int} (ha:Is a x) (hb:Is b y) (hc:Hid (cmpZ x y=c)) (hx:Fits x) (hy:Fits y) (w:World) :
  Calls Tryz.prog 108 #[.string a,.string b] w (CmpOk c w):=by
 have:=compare_ok a b x y w ha hb hx hy (ha.str hx) (hb.str hy);rw [hc.out] at this;exact this
def BoolOk (c:Bool) (w:World) (e:Ending) (w':World):Prop:=e = .returned (.bool c)∧Below w.heap.size w w'
theorem validS {a:ByteArray} {c:Bool} (hc:Hid (validB a.data.toList=c)) (hs:Str a) (w:World) :
  Calls Tryz.prog 107 #[.string a] w (BoolOk c w):=by
 have:=valid_any a w hs;rw [hc.out] at this;exact this
theorem cmpZ_lt {a b:Int} (h:a<b):cmpZ a b = -1:=by unfold cmpZ;rw [if_pos h]
theorem cmpZ_eq {a b:Int} (h:a=b):cmpZ a b=0:=by unfold cmpZ;rw [if_neg (by omega),if_neg (by omega)]
theorem cmpZ_gt {a b:Int} (h:b<a):cmpZ a b=1:=by unfold cmpZ;rw [if_neg (by omega),if_pos h]
theorem S_list (x:Int):(S x).toList=itoa x:=by rw [ByteArray.toList_eq];exact is_S x
theorem S_ne {x y:Int} (h:x≠y):((S x).toList == (S y).toList)=false:=beq_eq_false_iff_ne.2 fun e=>h (itoa_inj (by rwa [S_list,S_list] at e))
theorem S_ne0 {x:Int} (h:x≠0):((S x).toList == [48])=false:=beq_eq_false_iff_ne.2 fun e=>h (itoa_inj (by rw [S_list] at e;rw [e];exact is_zero))
theorem exists_root (x:Nat):∃ r,IsRoot x r:=by
 have key:∀ n,∃ r,IsRoot n r:=by
  intro n
  induction n with
  | zero=>exact ⟨0,by unfold IsRoot;omega⟩
  | succ n ih =>
   obtain ⟨r,h1,h2⟩:=ih;by_cases h:(r+1) * (r+1)≤n+1
   ·refine ⟨r+1,h,?_⟩;have:(r+1) * (r+1)<(r+1+1) * (r+1+1):=Nat.mul_lt_mul'' (by omega) (by omega);omega
   ·exact ⟨r,by omega,by omega⟩
 exact key x
end Go.Proofs.YtdikaoahgleffaaGreatDoor
namespace Go.Proofs.YtdikaoahgleffaaGreatDoor
open Go Go.RowKit Go.Lib Go.Shelf
theorem fits_lit {z:Int} (h:z.natAbs<100000):Fits z:=Nat.lt_trans h (by decide +kernel)
theorem S_eq0 {x:Int} (h:x=0):((S x).toList == [48])=true:=by
 subst h;rw [S_list,← is_zero];rfl
def FromOk (z:Int) (w:World) (e:Ending) (w':World):Prop:=e = .returned (.string (S z))∧Below w.heap.size w w'
end Go.Proofs.YtdikaoahgleffaaGreatDoor
