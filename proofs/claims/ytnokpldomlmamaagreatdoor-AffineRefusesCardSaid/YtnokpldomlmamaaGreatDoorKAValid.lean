/-
 Package affine: areSources, isBetween, Valid, whatever the strings and the numbers of sources.
-/
import Derived.Test.YtnokpldomlmamaaGreatDoorKAFind
set_option linter.unusedSimpArgs false
set_option linter.unusedVariables false
set_option maxRecDepth 100000
set_option maxHeartbeats 16000000
namespace Go.Proofs.YtnokpldomlmamaaGreatDoor
open Go Go.RowKit Go.Lib Go.Shelf
/-- The numbers of sources are right, and strictly ascend. -/
def SrcU (l:List RT):Prop:=∀ i,i<l.length→1≤(uD l i).s∧(uD l i).s≤1000000∧(0<i→(uD l (i - 1)).s<(uD l i).s)
instance (l:List RT):Decidable (SrcU l):=by unfold SrcU;infer_instance
theorem srcU_of {l:List Trm} (h:SrcOk l):SrcU (raws l):=fun i hi=>by
 rw [raws_length] at hi
 rw [raws_at hi]
 have h1:=h.src _ (trD_mem hi)
 refine ⟨by show 1≤((trD l i).s:Int);omega,by show ((trD l i).s:Int)≤1000000;omega,fun h0 => ?_⟩
 rw [raws_at (show i - 1<l.length by omega)]
 have:=h.lt (show i - 1<i by omega) hi
 show ((trD l (i - 1)).s:Int)<((trD l i).s:Int)
 omega
def IntIs (z:Int) (w:World) (e:Ending) (w':World):Prop:=e = .returned (.int .i64 z)∧Below w.heap.size w w'
theorem asource (x:RT) (w:World):Calls Tryz.prog 93 #[uV x] w (IntIs x.s w):=by
 have hB:Below w.heap.size w w:=Below.refl _ _
 unfold IntIs uV
 go_enter Tryz.func93, Tryz.ntmps93
 go_wp2
 go_ret
 exact ⟨rfl,BW⟩
theorem asrcid (x:RT) (w:World):Calls Tryz.prog 100 #[uV x] w (IntIs x.s w):=by
 have hB:Below w.heap.size w w:=Below.refl _ _
 unfold IntIs uV
 go_enter Tryz.func100, Tryz.ntmps100
 go_wp2
 go_ret
 exact ⟨rfl,BW⟩
theorem aare {l:List RT} (p:Option Addr) (n c:Nat) (hn:l.length=n) (hn1:n≤1000000) (w:World) (hp:UAt 62 w p l):Calls Tryz.prog 92 #[.slice p n c,.func (.func 93) #[] #[]] w (BoolOk (decide (SrcU l)) w):=by
 have hB:Below w.heap.size w w:=Below.refl _ _
 have HP:=Lib.hid hp
 clear hp
 have hnI:(n:Int)≤1000000:=by omega
 have G0:=fun (x:RT) W=>asource x W
 unfold IntIs uV at G0
 generalize hd:decide (SrcU l)=b
 unfold BoolOk
 go_enter Tryz.func92, Tryz.ntmps92
 go_wp2_with fail
 go_loopw [10] (fun v10 wr=>∃ i:Nat,v10 = .int .i64 (i:Int)∧i≤n∧(∀ j,j<i→1≤(uD l j).s∧(uD l j).s≤1000000∧(0<j→(uD l (j - 1)).s<(uD l j).s))∧Below w.heap.size w wr) (fun v10 _=>(n - RowKit.intOf v10).toNat)
 case atStart=>exact ⟨0,rfl,by omega,fun j hj=>absurd hj (by omega),hB⟩
 case round =>
  clear hB
  obtain ⟨i,rfl,hin,hall,hB⟩:=hrel
  rcases Nat.lt_or_ge i n with hlt | hge
  ·have hlt':i<l.length:=by rw [hn];exact hlt
   obtain ⟨x,hx⟩:∃ x,x=uD l i:=⟨_,rfl⟩
   have hlI:(i:Int)<(n:Int):=by omega
   have KX:=Lib.hid hx
   have HD:=Lib.hid hd
   have HN:=Lib.hid hn
   clear hd hn
   obtain ⟨g,gcur,rfl,rg,g0,g1,g2⟩:=UAt.at (UAt.below HP.out hB) hlt'
   rw [← hx] at g0 g1 g2
   clear hx
   have Fg:∀ X,Row X g (.cells gcur 62)→(g<X.heap.size∧X.cell? ⟨g,i * 3,none⟩=some (.int .i64 x.s)∧X.cell? ⟨g,i * 3+1,none⟩=some (.string x.a)∧X.cell? ⟨g,i * 3+2,none⟩=some (.string x.b)):=fun X h=>⟨h.1,Row.cell_at h _ g0,Row.cell_at h _ g1,Row.cell_at h _ g2⟩
   have sg:=Fg _ rg
   rcases (show x.s<1∨(1≤x.s∧1000000<x.s)∨(1≤x.s∧x.s≤1000000) by omega) with hs | ⟨hs,hs2⟩ | ⟨hs,hs2⟩
   ·have a1:decide (x.s<1)=true:=decide_eq_true hs
    clear hall
    go_wp2_with fail
    have sB:=hB.size
    refine world_cut (fun X=>Below w.heap.size w X∧Row X g (.cells gcur 62)∧Row X wr.heap.size (.cells #[.int .i64 x.s,.string x.a,.string x.b] 62)) ⟨BW,RWh,RWh⟩ ?_
    clear rg
    clear sg
    clear hB sB
    rintro V1 ⟨hB,rg,rb0⟩
    have sg:=Fg _ rg
    have sb0:=RF3 rb0
    refine (G0 _ _).mono ?_
    rintro e W2 ⟨rfl,h1⟩
    have stp:=St2 hB h1 rg rb0;clear hB h1 rg sg rb0 sb0
    obtain ⟨hB,rg,rb0⟩:=stp
    have sg:=Fg _ rg
    have sb0:=RF3 rb0
    go_wp2
    go_ret
    have hb:b=false:=HD.out.symm.trans (decide_eq_false fun h=>by have k:=h i hlt';rw [← KX.out] at k;omega)
    exact ⟨by rw [hb];rfl,hB⟩
   ·clear hall
    have a1:decide (x.s<1)=false:=decide_eq_false (by omega)
    have a2:decide (1000000<x.s)=true:=decide_eq_true hs2
    go_wp2_with fail
    have sB:=hB.size
    refine world_cut (fun X=>Below w.heap.size w X∧Row X g (.cells gcur 62)∧Row X wr.heap.size (.cells #[.int .i64 x.s,.string x.a,.string x.b] 62)) ⟨BW,RWh,RWh⟩ ?_
    clear rg
    clear sg
    clear hB sB
    rintro V1 ⟨hB,rg,rb0⟩
    have sg:=Fg _ rg
    have sb0:=RF3 rb0
    refine (G0 _ _).mono ?_
    rintro e W2 ⟨rfl,h1⟩
    have stp:=St2 hB h1 rg rb0;clear hB h1 rg sg rb0 sb0
    obtain ⟨hB,rg,rb0⟩:=stp
    have sg:=Fg _ rg
    have sb0:=RF3 rb0
    go_wp2
    go_ret
    have hb:b=false:=HD.out.symm.trans (decide_eq_false fun h=>by have k:=h i hlt';rw [← KX.out] at k;omega)
    exact ⟨by rw [hb];rfl,hB⟩
   ·have a1:decide (x.s<1)=false:=decide_eq_false (by omega)
    have a2:decide (1000000<x.s)=false:=decide_eq_false (by omega)
    have a1b:¬ x.s<1:=by omega
    have a2b:¬ 1000000<x.s:=by omega
    obtain ⟨k,hk⟩:∃ k:Nat,k=i - 1:=⟨_,rfl⟩
    rcases Nat.eq_zero_or_pos i with hi0 | hi0
    ·have a3:¬ (0:Int)<(i:Int):=by omega
     have HI0:=Lib.hid hi0
     clear hk k hi0
     go_wp2_with fail
     have sB:=hB.size
     refine world_cut (fun X=>Below w.heap.size w X∧Row X g (.cells gcur 62)∧Row X wr.heap.size (.cells #[.int .i64 x.s,.string x.a,.string x.b] 62)) ⟨BW,RWh,RWh⟩ ?_
     clear rg
     clear sg
     clear hB sB
     rintro V1 ⟨hB,rg,rb0⟩
     have sg:=Fg _ rg
     have sb0:=RF3 rb0
     refine (G0 _ _).mono ?_
     rintro e W2 ⟨rfl,h1⟩
     have stp:=St2 hB h1 rg rb0;clear hB h1 rg sg rb0 sb0
     obtain ⟨hB,rg,rb0⟩:=stp
     have sg:=Fg _ rg
     have sb0:=RF3 rb0
     go_wp2
     go_roundw
     case rel=>exact ⟨i+1,by go_num,by omega,fun j hj=>by rcases Nat.lt_succ_iff_lt_or_eq.1 hj with h | h;(· exact hall j h);(· subst h;rw [← KX.out];exact ⟨by omega,by omega,fun h=>absurd h (by have:=HI0.out;omega)⟩),BW⟩
     case measure=>simp [RowKit.intOf];omega
    ·have a3:(0:Int)<(i:Int):=by omega
     have hlk:k<l.length:=by omega
     have hmx:max ((i:Int) - 1) 0=(k:Int):=by omega
     have hkn:(k:Int)<(n:Int):=by omega
     have HK:=Lib.hid hk
     clear hk
     obtain ⟨y,hy⟩:∃ y,y=uD l k:=⟨_,rfl⟩
     have KY:=Lib.hid hy
     obtain ⟨g',gc2,hgg,rg2,g3,g4,g5⟩:=UAt.at (UAt.below HP.out hB) hlk
     obtain rfl:g=g':=by simpa using hgg
     obtain rfl:gcur=gc2:=by have:=rg.2.symm.trans rg2.2;simpa using this
     rw [← hy] at g3 g4 g5
     clear hgg hy rg2 hlk
     clear sg
     clear Fg
     have Fg:∀ X,Row X g (.cells gcur 62)→(g<X.heap.size∧X.cell? ⟨g,i * 3,none⟩=some (.int .i64 x.s)∧X.cell? ⟨g,i * 3+1,none⟩=some (.string x.a)∧X.cell? ⟨g,i * 3+2,none⟩=some (.string x.b)∧X.cell? ⟨g,k * 3,none⟩=some (.int .i64 y.s)∧X.cell? ⟨g,k * 3+1,none⟩=some (.string y.a)∧X.cell? ⟨g,k * 3+2,none⟩=some (.string y.b)):=fun X h=>⟨h.1,Row.cell_at h _ g0,Row.cell_at h _ g1,Row.cell_at h _ g2,Row.cell_at h _ g3,Row.cell_at h _ g4,Row.cell_at h _ g5⟩
     have sg:=Fg _ rg
     rcases (show x.s≤y.s∨y.s<x.s by omega) with hxy | hxy
     ·clear hall
      go_wp2_with fail
      have sB:=hB.size
      refine world_cut (fun X=>Below w.heap.size w X∧Row X g (.cells gcur 62)∧Row X wr.heap.size (.cells #[.int .i64 x.s,.string x.a,.string x.b] 62)) ⟨BW,RWh,RWh⟩ ?_
      clear rg
      clear sg
      clear hB sB
      rintro V1 ⟨hB,rg,rb0⟩
      have sg:=Fg _ rg
      have sb0:=RF3 rb0
      refine (G0 _ _).mono ?_
      rintro e W2 ⟨rfl,h1⟩
      have stp:=St2 hB h1 rg rb0;clear hB h1 rg sg rb0 sb0
      obtain ⟨hB,rg,rb0⟩:=stp
      have sg:=Fg _ rg
      have sb0:=RF3 rb0
      go_wp2_with fail
      refine (G0 _ _).mono ?_
      rintro e W3 ⟨rfl,h1⟩
      have stp:=St2 hB h1 rg rb0;clear hB h1 rg sg rb0 sb0
      obtain ⟨hB,rg,rb0⟩:=stp
      have sg:=Fg _ rg
      have sb0:=RF3 rb0
      go_wp2
      go_ret
      have hb:b=false:=HD.out.symm.trans (decide_eq_false fun h=>by have k:=h i hlt';rw [← KX.out] at k;have k2:=k.2.2 hi0;rw [← HK.out,← KY.out] at k2;omega)
      exact ⟨by rw [hb];rfl,hB⟩
     ·have hxy2:¬ x.s≤y.s:=by omega
      go_wp2_with fail
      have sB:=hB.size
      refine world_cut (fun X=>Below w.heap.size w X∧Row X g (.cells gcur 62)∧Row X wr.heap.size (.cells #[.int .i64 x.s,.string x.a,.string x.b] 62)) ⟨BW,RWh,RWh⟩ ?_
      clear rg
      clear sg
      clear hB sB
      rintro V1 ⟨hB,rg,rb0⟩
      have sg:=Fg _ rg
      have sb0:=RF3 rb0
      refine (G0 _ _).mono ?_
      rintro e W2 ⟨rfl,h1⟩
      have stp:=St2 hB h1 rg rb0;clear hB h1 rg sg rb0 sb0
      obtain ⟨hB,rg,rb0⟩:=stp
      have sg:=Fg _ rg
      have sb0:=RF3 rb0
      go_wp2_with fail
      refine (G0 _ _).mono ?_
      rintro e W3 ⟨rfl,h1⟩
      have stp:=St2 hB h1 rg rb0;clear hB h1 rg sg rb0 sb0
      obtain ⟨hB,rg,rb0⟩:=stp
      have sg:=Fg _ rg
      have sb0:=RF3 rb0
      go_wp2
      go_roundw
      case rel=>exact ⟨i+1,by go_num,by omega,fun j hj=>by rcases Nat.lt_succ_iff_lt_or_eq.1 hj with h | h;(· exact hall j h);(· subst h;rw [← KX.out];exact ⟨by omega,by omega,fun _=>by rw [← HK.out,← KY.out];exact hxy⟩),BW⟩
      case measure=>simp [RowKit.intOf];omega
  ·obtain rfl:i=n:=by omega
   have hb:b=true:=hd.symm.trans (decide_eq_true fun j hj=>hall j (by omega))
   subst hb
   clear hd
   go_wp2
   go_ret
   exact ⟨rfl,hB⟩
theorem aareS {l:List RT} (p:Option Addr) (n c:Nat) (hn:l.length=n) (hn1:n≤1000000) (w:World) (hp:UAt 70 w p l):Calls Tryz.prog 99 #[.slice p n c,.func (.func 100) #[] #[]] w (BoolOk (decide (SrcU l)) w):=by
 have hB:Below w.heap.size w w:=Below.refl _ _
 have HP:=Lib.hid hp
 clear hp
 have hnI:(n:Int)≤1000000:=by omega
 have G0:=fun (x:RT) W=>asrcid x W
 unfold IntIs uV at G0
 generalize hd:decide (SrcU l)=b
 unfold BoolOk
 go_enter Tryz.func99, Tryz.ntmps99
 go_wp2_with fail
 go_loopw [10] (fun v10 wr=>∃ i:Nat,v10 = .int .i64 (i:Int)∧i≤n∧(∀ j,j<i→1≤(uD l j).s∧(uD l j).s≤1000000∧(0<j→(uD l (j - 1)).s<(uD l j).s))∧Below w.heap.size w wr) (fun v10 _=>(n - RowKit.intOf v10).toNat)
 case atStart=>exact ⟨0,rfl,by omega,fun j hj=>absurd hj (by omega),hB⟩
 case round =>
  clear hB
  obtain ⟨i,rfl,hin,hall,hB⟩:=hrel
  rcases Nat.lt_or_ge i n with hlt | hge
  ·have hlt':i<l.length:=by rw [hn];exact hlt
   obtain ⟨x,hx⟩:∃ x,x=uD l i:=⟨_,rfl⟩
   have hlI:(i:Int)<(n:Int):=by omega
   have KX:=Lib.hid hx
   have HD:=Lib.hid hd
   have HN:=Lib.hid hn
   clear hd hn
   obtain ⟨g,gcur,rfl,rg,g0,g1,g2⟩:=UAt.at (UAt.below HP.out hB) hlt'
   rw [← hx] at g0 g1 g2
   clear hx
   have Fg:∀ X,Row X g (.cells gcur 70)→(g<X.heap.size∧X.cell? ⟨g,i * 3,none⟩=some (.int .i64 x.s)∧X.cell? ⟨g,i * 3+1,none⟩=some (.string x.a)∧X.cell? ⟨g,i * 3+2,none⟩=some (.string x.b)):=fun X h=>⟨h.1,Row.cell_at h _ g0,Row.cell_at h _ g1,Row.cell_at h _ g2⟩
   have sg:=Fg _ rg
   rcases (show x.s<1∨(1≤x.s∧1000000<x.s)∨(1≤x.s∧x.s≤1000000) by omega) with hs | ⟨hs,hs2⟩ | ⟨hs,hs2⟩
   ·have a1:decide (x.s<1)=true:=decide_eq_true hs
    clear hall
    go_wp2_with fail
    have sB:=hB.size
    refine world_cut (fun X=>Below w.heap.size w X∧Row X g (.cells gcur 70)∧Row X wr.heap.size (.cells #[.int .i64 x.s,.string x.a,.string x.b] 70)) ⟨BW,RWh,RWh⟩ ?_
    clear rg
    clear sg
    clear hB sB
    rintro V1 ⟨hB,rg,rb0⟩
    have sg:=Fg _ rg
    have sb0:=RF3 rb0
    refine (G0 _ _).mono ?_
    rintro e W2 ⟨rfl,h1⟩
    have stp:=St2 hB h1 rg rb0;clear hB h1 rg sg rb0 sb0
    obtain ⟨hB,rg,rb0⟩:=stp
    have sg:=Fg _ rg
    have sb0:=RF3 rb0
    go_wp2
    go_ret
    have hb:b=false:=HD.out.symm.trans (decide_eq_false fun h=>by have k:=h i hlt';rw [← KX.out] at k;omega)
    exact ⟨by rw [hb];rfl,hB⟩
   ·clear hall
    have a1:decide (x.s<1)=false:=decide_eq_false (by omega)
    have a2:decide (1000000<x.s)=true:=decide_eq_true hs2
    go_wp2_with fail
    have sB:=hB.size
    refine world_cut (fun X=>Below w.heap.size w X∧Row X g (.cells gcur 70)∧Row X wr.heap.size (.cells #[.int .i64 x.s,.string x.a,.string x.b] 70)) ⟨BW,RWh,RWh⟩ ?_
    clear rg
    clear sg
    clear hB sB
    rintro V1 ⟨hB,rg,rb0⟩
    have sg:=Fg _ rg
    have sb0:=RF3 rb0
    refine (G0 _ _).mono ?_
    rintro e W2 ⟨rfl,h1⟩
    have stp:=St2 hB h1 rg rb0;clear hB h1 rg sg rb0 sb0
    obtain ⟨hB,rg,rb0⟩:=stp
    have sg:=Fg _ rg
    have sb0:=RF3 rb0
    go_wp2
    go_ret
    have hb:b=false:=HD.out.symm.trans (decide_eq_false fun h=>by have k:=h i hlt';rw [← KX.out] at k;omega)
    exact ⟨by rw [hb];rfl,hB⟩
   ·have a1:decide (x.s<1)=false:=decide_eq_false (by omega)
    have a2:decide (1000000<x.s)=false:=decide_eq_false (by omega)
    have a1b:¬ x.s<1:=by omega
    have a2b:¬ 1000000<x.s:=by omega
    obtain ⟨k,hk⟩:∃ k:Nat,k=i - 1:=⟨_,rfl⟩
    rcases Nat.eq_zero_or_pos i with hi0 | hi0
    ·have a3:¬ (0:Int)<(i:Int):=by omega
     have HI0:=Lib.hid hi0
     clear hk k hi0
     go_wp2_with fail
     have sB:=hB.size
     refine world_cut (fun X=>Below w.heap.size w X∧Row X g (.cells gcur 70)∧Row X wr.heap.size (.cells #[.int .i64 x.s,.string x.a,.string x.b] 70)) ⟨BW,RWh,RWh⟩ ?_
     clear rg
     clear sg
     clear hB sB
     rintro V1 ⟨hB,rg,rb0⟩
     have sg:=Fg _ rg
     have sb0:=RF3 rb0
     refine (G0 _ _).mono ?_
     rintro e W2 ⟨rfl,h1⟩
     have stp:=St2 hB h1 rg rb0;clear hB h1 rg sg rb0 sb0
     obtain ⟨hB,rg,rb0⟩:=stp
     have sg:=Fg _ rg
     have sb0:=RF3 rb0
     go_wp2
     go_roundw
     case rel=>exact ⟨i+1,by go_num,by omega,fun j hj=>by rcases Nat.lt_succ_iff_lt_or_eq.1 hj with h | h;(· exact hall j h);(· subst h;rw [← KX.out];exact ⟨by omega,by omega,fun h=>absurd h (by have:=HI0.out;omega)⟩),BW⟩
     case measure=>simp [RowKit.intOf];omega
    ·have a3:(0:Int)<(i:Int):=by omega
     have hlk:k<l.length:=by omega
     have hmx:max ((i:Int) - 1) 0=(k:Int):=by omega
     have hkn:(k:Int)<(n:Int):=by omega
     have HK:=Lib.hid hk
     clear hk
     obtain ⟨y,hy⟩:∃ y,y=uD l k:=⟨_,rfl⟩
     have KY:=Lib.hid hy
     obtain ⟨g',gc2,hgg,rg2,g3,g4,g5⟩:=UAt.at (UAt.below HP.out hB) hlk
     obtain rfl:g=g':=by simpa using hgg
     obtain rfl:gcur=gc2:=by have:=rg.2.symm.trans rg2.2;simpa using this
     rw [← hy] at g3 g4 g5
     clear hgg hy rg2 hlk
     clear sg
     clear Fg
     have Fg:∀ X,Row X g (.cells gcur 70)→(g<X.heap.size∧X.cell? ⟨g,i * 3,none⟩=some (.int .i64 x.s)∧X.cell? ⟨g,i * 3+1,none⟩=some (.string x.a)∧X.cell? ⟨g,i * 3+2,none⟩=some (.string x.b)∧X.cell? ⟨g,k * 3,none⟩=some (.int .i64 y.s)∧X.cell? ⟨g,k * 3+1,none⟩=some (.string y.a)∧X.cell? ⟨g,k * 3+2,none⟩=some (.string y.b)):=fun X h=>⟨h.1,Row.cell_at h _ g0,Row.cell_at h _ g1,Row.cell_at h _ g2,Row.cell_at h _ g3,Row.cell_at h _ g4,Row.cell_at h _ g5⟩
     have sg:=Fg _ rg
     rcases (show x.s≤y.s∨y.s<x.s by omega) with hxy | hxy
     ·clear hall
      go_wp2_with fail
      have sB:=hB.size
      refine world_cut (fun X=>Below w.heap.size w X∧Row X g (.cells gcur 70)∧Row X wr.heap.size (.cells #[.int .i64 x.s,.string x.a,.string x.b] 70)) ⟨BW,RWh,RWh⟩ ?_
      clear rg
      clear sg
      clear hB sB
      rintro V1 ⟨hB,rg,rb0⟩
      have sg:=Fg _ rg
      have sb0:=RF3 rb0
      refine (G0 _ _).mono ?_
      rintro e W2 ⟨rfl,h1⟩
      have stp:=St2 hB h1 rg rb0;clear hB h1 rg sg rb0 sb0
      obtain ⟨hB,rg,rb0⟩:=stp
      have sg:=Fg _ rg
      have sb0:=RF3 rb0
      go_wp2_with fail
      refine (G0 _ _).mono ?_
      rintro e W3 ⟨rfl,h1⟩
      have stp:=St2 hB h1 rg rb0;clear hB h1 rg sg rb0 sb0
      obtain ⟨hB,rg,rb0⟩:=stp
      have sg:=Fg _ rg
      have sb0:=RF3 rb0
      go_wp2
      go_ret
      have hb:b=false:=HD.out.symm.trans (decide_eq_false fun h=>by have k:=h i hlt';rw [← KX.out] at k;have k2:=k.2.2 hi0;rw [← HK.out,← KY.out] at k2;omega)
      exact ⟨by rw [hb];rfl,hB⟩
     ·have hxy2:¬ x.s≤y.s:=by omega
      go_wp2_with fail
      have sB:=hB.size
      refine world_cut (fun X=>Below w.heap.size w X∧Row X g (.cells gcur 70)∧Row X wr.heap.size (.cells #[.int .i64 x.s,.string x.a,.string x.b] 70)) ⟨BW,RWh,RWh⟩ ?_
      clear rg
      clear sg
      clear hB sB
      rintro V1 ⟨hB,rg,rb0⟩
      have sg:=Fg _ rg
      have sb0:=RF3 rb0
      refine (G0 _ _).mono ?_
      rintro e W2 ⟨rfl,h1⟩
      have stp:=St2 hB h1 rg rb0;clear hB h1 rg sg rb0 sb0
      obtain ⟨hB,rg,rb0⟩:=stp
      have sg:=Fg _ rg
      have sb0:=RF3 rb0
      go_wp2_with fail
      refine (G0 _ _).mono ?_
      rintro e W3 ⟨rfl,h1⟩
      have stp:=St2 hB h1 rg rb0;clear hB h1 rg sg rb0 sb0
      obtain ⟨hB,rg,rb0⟩:=stp
      have sg:=Fg _ rg
      have sb0:=RF3 rb0
      go_wp2
      go_roundw
      case rel=>exact ⟨i+1,by go_num,by omega,fun j hj=>by rcases Nat.lt_succ_iff_lt_or_eq.1 hj with h | h;(· exact hall j h);(· subst h;rw [← KX.out];exact ⟨by omega,by omega,fun _=>by rw [← HK.out,← KY.out];exact hxy⟩),BW⟩
      case measure=>simp [RowKit.intOf];omega
  ·obtain rfl:i=n:=by omega
   have hb:b=true:=hd.symm.trans (decide_eq_true fun j hj=>hall j (by omega))
   subst hb
   clear hd
   go_wp2
   go_ret
   exact ⟨rfl,hB⟩
end Go.Proofs.YtnokpldomlmamaaGreatDoor
