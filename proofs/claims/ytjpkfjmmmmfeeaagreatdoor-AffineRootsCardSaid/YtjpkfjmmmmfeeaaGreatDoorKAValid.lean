/-
 slices.IndexFunc and slices.ContainsFunc over slices of terms and of sources. Package affine: areSources, isBetween, Valid, whatever the strings and the numbers of sources.
-/
import Derived.Test.YtjpkfjmmmmfeeaaGreatDoorKACompute
import Derived.Test.YtjpkfjmmmmfeeaaGreatDoorKANum
set_option linter.unusedSimpArgs false
set_option linter.unusedVariables false
set_option maxRecDepth 100000
set_option maxHeartbeats 16000000
namespace Go.Proofs.YtjpkfjmmmmfeeaaGreatDoor
open Go Go.RowKit Go.Lib Go.Shelf
/-- A term, or a source, as a value. -/
def uV (t:RT):Value := .agg #[.int .i64 t.s,.string t.a,.string t.b]
theorem tindex {l:List RT} (P:Nat→Bool) (G:FuncId) (eg:∀ args w,(callFunc G args).run Tryz.prog w = .ok (.enter G args) w) (p:Option Addr) (n c:Nat) (hn:l.length=n) (hn1:n≤1000000) (w:World) (hp:UAt 51 w p l) (h:∀ i,i<n→∀ W,Below w.heap.size w W→Calls Tryz.prog G #[uV (uD l i)] W (BoolOk (P i) W)):Calls Tryz.prog 131 #[.slice p n c,.func (.func G) #[] #[]] w (fun e w'=>∃ r:Int,e = .returned (.int .i64 r)∧((r = -1∧∀ j,j<n→P j=false)∨∃ i:Nat,r=(i:Int)∧i<n∧P i=true)∧Below w.heap.size w w'):=by
 have hB:Below w.heap.size w w:=Below.refl _ _
 have HP:=Lib.hid hp
 clear hp
 have hnI:(n:Int)≤1000000:=by omega
 go_enter Tryz.func131, Tryz.ntmps131
 go_wp2_with fail
 go_loopw [8] (fun v8 wr=>∃ i:Nat,v8 = .int .i64 (i:Int)∧i≤n∧(∀ j,j<i→P j=false)∧Below w.heap.size w wr) (fun v8 _=>(n - intOf v8).toNat)
 case atStart=>exact ⟨0,rfl,by omega,fun j hj=>absurd hj (by omega),hB⟩
 case round =>
  clear hB
  obtain ⟨i,rfl,hin,hall,hB⟩:=hrel
  rcases Nat.lt_or_ge i n with hlt | hge
  ·have hlt':i<l.length:=by rw [hn];exact hlt
   have H:=fun W hB=>h i hlt W hB
   obtain ⟨x,hx⟩:∃ x,x=uD l i:=⟨_,rfl⟩
   rw [← hx] at H
   have hlI:(i:Int)<(n:Int):=by omega
   obtain ⟨g,gcur,rfl,rg,g0,g1,g2⟩:=UAt.at (UAt.below HP.out hB) hlt'
   rw [← hx] at g0 g1 g2
   clear hx
   have Fg:∀ X,Row X g (.cells gcur 51)→(g<X.heap.size∧X.cell? ⟨g,i * 3,none⟩=some (.int .i64 x.s)∧X.cell? ⟨g,i * 3+1,none⟩=some (.string x.a)∧X.cell? ⟨g,i * 3+2,none⟩=some (.string x.b)):=fun X h=>⟨h.1,Row.cell_at h _ g0,Row.cell_at h _ g1,Row.cell_at h _ g2⟩
   obtain ⟨sg,cg0,cg1,cg2⟩:=Fg _ rg
   unfold uV at H
   obtain ⟨b,hb⟩:∃ b,b=P i:=⟨_,rfl⟩
   rw [← hb] at H
   have HN:=Lib.hid hn
   have HHB:=Lib.hid hb
   clear h hb hn
   cases b
   ·go_wp2_with fail
    go_wp2_with (go_at_fn G;refine (H _ hB).mono ?_;rintro e W1 ⟨rfl,h1⟩;have stp:=St1 hB h1 rg;clear hB h1 rg sg cg0 cg1 cg2;obtain ⟨hB,rg⟩:=stp;obtain ⟨sg,cg0,cg1,cg2⟩:=Fg _ rg)
    go_wp2
    go_roundw
    case rel=>exact ⟨i+1,by go_num,by omega,fun j hj=>by rcases Nat.lt_succ_iff_lt_or_eq.1 hj with h | h;(· exact hall j h);(· subst h;exact HHB.out.symm),BW⟩
    case measure=>simp [intOf];omega
   ·go_wp2_with fail
    go_wp2_with (go_at_fn G;refine (H _ hB).mono ?_;rintro e W1 ⟨rfl,h1⟩;have stp:=St1 hB h1 rg;clear hB h1 rg sg cg0 cg1 cg2;obtain ⟨hB,rg⟩:=stp;obtain ⟨sg,cg0,cg1,cg2⟩:=Fg _ rg)
    go_wp2
    go_ret
    exact ⟨(i:Int),rfl,.inr ⟨i,rfl,hlt,HHB.out.symm⟩,hB⟩
  ·obtain rfl:i=n:=by omega
   go_wp2
   go_ret
   exact ⟨-1,rfl,.inl ⟨rfl,hall⟩,hB⟩
theorem tcontains {l:List RT} (P:Nat→Bool) (G:FuncId) (eg:∀ args w,(callFunc G args).run Tryz.prog w = .ok (.enter G args) w) (p:Option Addr) (n c:Nat) (hn:l.length=n) (hn1:n≤1000000) (w:World) (hp:UAt 51 w p l) (h:∀ i,i<n→∀ W,Below w.heap.size w W→Calls Tryz.prog G #[uV (uD l i)] W (BoolOk (P i) W)):Calls Tryz.prog 77 #[.slice p n c,.func (.func G) #[] #[]] w (BoolOk (decide (∃ i,i<n∧P i=true)) w):=by
 have H:=tindex P G eg p n c hn hn1 w hp h
 clear h hp eg
 unfold BoolOk
 generalize hd:decide (∃ i,i<n∧P i=true)=b
 go_enter Tryz.func77, Tryz.ntmps77
 go_wp2_with fail
 refine H.mono ?_
 rintro e W ⟨r,rfl,hr,h1⟩
 have hb:decide (0≤r)=b:=by
  rw [← hd]
  rcases hr with ⟨rfl,hall⟩ | ⟨i,rfl,hi,hP⟩
  ·exact (decide_eq_false (fun ⟨i,hi,h⟩=>by rw [hall i hi] at h;cases h)).symm
  ·exact (decide_eq_true (by omega)).trans (decide_eq_true ⟨i,hi,hP⟩).symm
 clear hr hd
 have HH:=Lib.hid hb
 go_wp2
 go_ret
 exact ⟨rfl,h1⟩
theorem sindex {l:List RT} (P:Nat→Bool) (G:FuncId) (eg:∀ args w,(callFunc G args).run Tryz.prog w = .ok (.enter G args) w) (p:Option Addr) (n c:Nat) (hn:l.length=n) (hn1:n≤1000000) (w:World) (hp:UAt 58 w p l) (h:∀ i,i<n→∀ W,Below w.heap.size w W→Calls Tryz.prog G #[uV (uD l i)] W (BoolOk (P i) W)):Calls Tryz.prog 119 #[.slice p n c,.func (.func G) #[] #[]] w (fun e w'=>∃ r:Int,e = .returned (.int .i64 r)∧((r = -1∧∀ j,j<n→P j=false)∨∃ i:Nat,r=(i:Int)∧i<n∧P i=true)∧Below w.heap.size w w'):=by
 have hB:Below w.heap.size w w:=Below.refl _ _
 have HP:=Lib.hid hp
 clear hp
 have hnI:(n:Int)≤1000000:=by omega
 go_enter Tryz.func119, Tryz.ntmps119
 go_wp2_with fail
 go_loopw [8] (fun v8 wr=>∃ i:Nat,v8 = .int .i64 (i:Int)∧i≤n∧(∀ j,j<i→P j=false)∧Below w.heap.size w wr) (fun v8 _=>(n - intOf v8).toNat)
 case atStart=>exact ⟨0,rfl,by omega,fun j hj=>absurd hj (by omega),hB⟩
 case round =>
  clear hB
  obtain ⟨i,rfl,hin,hall,hB⟩:=hrel
  rcases Nat.lt_or_ge i n with hlt | hge
  ·have hlt':i<l.length:=by rw [hn];exact hlt
   have H:=fun W hB=>h i hlt W hB
   obtain ⟨x,hx⟩:∃ x,x=uD l i:=⟨_,rfl⟩
   rw [← hx] at H
   have hlI:(i:Int)<(n:Int):=by omega
   obtain ⟨g,gcur,rfl,rg,g0,g1,g2⟩:=UAt.at (UAt.below HP.out hB) hlt'
   rw [← hx] at g0 g1 g2
   clear hx
   have Fg:∀ X,Row X g (.cells gcur 58)→(g<X.heap.size∧X.cell? ⟨g,i * 3,none⟩=some (.int .i64 x.s)∧X.cell? ⟨g,i * 3+1,none⟩=some (.string x.a)∧X.cell? ⟨g,i * 3+2,none⟩=some (.string x.b)):=fun X h=>⟨h.1,Row.cell_at h _ g0,Row.cell_at h _ g1,Row.cell_at h _ g2⟩
   obtain ⟨sg,cg0,cg1,cg2⟩:=Fg _ rg
   unfold uV at H
   obtain ⟨b,hb⟩:∃ b,b=P i:=⟨_,rfl⟩
   rw [← hb] at H
   have HN:=Lib.hid hn
   have HHB:=Lib.hid hb
   clear h hb hn
   cases b
   ·go_wp2_with fail
    go_wp2_with (go_at_fn G;refine (H _ hB).mono ?_;rintro e W1 ⟨rfl,h1⟩;have stp:=St1 hB h1 rg;clear hB h1 rg sg cg0 cg1 cg2;obtain ⟨hB,rg⟩:=stp;obtain ⟨sg,cg0,cg1,cg2⟩:=Fg _ rg)
    go_wp2
    go_roundw
    case rel=>exact ⟨i+1,by go_num,by omega,fun j hj=>by rcases Nat.lt_succ_iff_lt_or_eq.1 hj with h | h;(· exact hall j h);(· subst h;exact HHB.out.symm),BW⟩
    case measure=>simp [intOf];omega
   ·go_wp2_with fail
    go_wp2_with (go_at_fn G;refine (H _ hB).mono ?_;rintro e W1 ⟨rfl,h1⟩;have stp:=St1 hB h1 rg;clear hB h1 rg sg cg0 cg1 cg2;obtain ⟨hB,rg⟩:=stp;obtain ⟨sg,cg0,cg1,cg2⟩:=Fg _ rg)
    go_wp2
    go_ret
    exact ⟨(i:Int),rfl,.inr ⟨i,rfl,hlt,HHB.out.symm⟩,hB⟩
  ·obtain rfl:i=n:=by omega
   go_wp2
   go_ret
   exact ⟨-1,rfl,.inl ⟨rfl,hall⟩,hB⟩
theorem scontains {l:List RT} (P:Nat→Bool) (G:FuncId) (eg:∀ args w,(callFunc G args).run Tryz.prog w = .ok (.enter G args) w) (p:Option Addr) (n c:Nat) (hn:l.length=n) (hn1:n≤1000000) (w:World) (hp:UAt 58 w p l) (h:∀ i,i<n→∀ W,Below w.heap.size w W→Calls Tryz.prog G #[uV (uD l i)] W (BoolOk (P i) W)):Calls Tryz.prog 64 #[.slice p n c,.func (.func G) #[] #[]] w (BoolOk (decide (∃ i,i<n∧P i=true)) w):=by
 have H:=sindex P G eg p n c hn hn1 w hp h
 clear h hp eg
 unfold BoolOk
 generalize hd:decide (∃ i,i<n∧P i=true)=b
 go_enter Tryz.func64, Tryz.ntmps64
 go_wp2_with fail
 refine H.mono ?_
 rintro e W ⟨r,rfl,hr,h1⟩
 have hb:decide (0≤r)=b:=by
  rw [← hd]
  rcases hr with ⟨rfl,hall⟩ | ⟨i,rfl,hi,hP⟩
  ·exact (decide_eq_false (fun ⟨i,hi,h⟩=>by rw [hall i hi] at h;cases h)).symm
  ·exact (decide_eq_true (by omega)).trans (decide_eq_true ⟨i,hi,hP⟩).symm
 clear hr hd
 have HH:=Lib.hid hb
 go_wp2
 go_ret
 exact ⟨rfl,h1⟩
theorem scindex {l:List RT} (P:Nat→Bool) (G:FuncId) (q:Value) (eg:∀ args w,(callFunc G args).run Tryz.prog w = .ok (.enter G args) w) (p:Option Addr) (n c:Nat) (hn:l.length=n) (hn1:n≤1000000) (w:World) (hp:UAt 58 w p l) (h:∀ i,i<n→∀ W,Below w.heap.size w W→Calls Tryz.prog G #[uV (uD l i),q] W (BoolOk (P i) W)):Calls Tryz.prog 119 #[.slice p n c,.func (.func G) #[] #[q]] w (fun e w'=>∃ r:Int,e = .returned (.int .i64 r)∧((r = -1∧∀ j,j<n→P j=false)∨∃ i:Nat,r=(i:Int)∧i<n∧P i=true)∧Below w.heap.size w w'):=by
 have hB:Below w.heap.size w w:=Below.refl _ _
 have HP:=Lib.hid hp
 clear hp
 have hnI:(n:Int)≤1000000:=by omega
 go_enter Tryz.func119, Tryz.ntmps119
 go_wp2_with fail
 go_loopw [8] (fun v8 wr=>∃ i:Nat,v8 = .int .i64 (i:Int)∧i≤n∧(∀ j,j<i→P j=false)∧Below w.heap.size w wr) (fun v8 _=>(n - intOf v8).toNat)
 case atStart=>exact ⟨0,rfl,by omega,fun j hj=>absurd hj (by omega),hB⟩
 case round =>
  clear hB
  obtain ⟨i,rfl,hin,hall,hB⟩:=hrel
  rcases Nat.lt_or_ge i n with hlt | hge
  ·have hlt':i<l.length:=by rw [hn];exact hlt
   have H:=fun W hB=>h i hlt W hB
   obtain ⟨x,hx⟩:∃ x,x=uD l i:=⟨_,rfl⟩
   rw [← hx] at H
   have hlI:(i:Int)<(n:Int):=by omega
   obtain ⟨g,gcur,rfl,rg,g0,g1,g2⟩:=UAt.at (UAt.below HP.out hB) hlt'
   rw [← hx] at g0 g1 g2
   clear hx
   have Fg:∀ X,Row X g (.cells gcur 58)→(g<X.heap.size∧X.cell? ⟨g,i * 3,none⟩=some (.int .i64 x.s)∧X.cell? ⟨g,i * 3+1,none⟩=some (.string x.a)∧X.cell? ⟨g,i * 3+2,none⟩=some (.string x.b)):=fun X h=>⟨h.1,Row.cell_at h _ g0,Row.cell_at h _ g1,Row.cell_at h _ g2⟩
   obtain ⟨sg,cg0,cg1,cg2⟩:=Fg _ rg
   unfold uV at H
   obtain ⟨b,hb⟩:∃ b,b=P i:=⟨_,rfl⟩
   rw [← hb] at H
   have HN:=Lib.hid hn
   have HHB:=Lib.hid hb
   clear h hb hn
   cases b
   ·go_wp2_with fail
    go_wp2_with (go_at_fn G;refine (H _ hB).mono ?_;rintro e W1 ⟨rfl,h1⟩;have stp:=St1 hB h1 rg;clear hB h1 rg sg cg0 cg1 cg2;obtain ⟨hB,rg⟩:=stp;obtain ⟨sg,cg0,cg1,cg2⟩:=Fg _ rg)
    go_wp2
    go_roundw
    case rel=>exact ⟨i+1,by go_num,by omega,fun j hj=>by rcases Nat.lt_succ_iff_lt_or_eq.1 hj with h | h;(· exact hall j h);(· subst h;exact HHB.out.symm),BW⟩
    case measure=>simp [intOf];omega
   ·go_wp2_with fail
    go_wp2_with (go_at_fn G;refine (H _ hB).mono ?_;rintro e W1 ⟨rfl,h1⟩;have stp:=St1 hB h1 rg;clear hB h1 rg sg cg0 cg1 cg2;obtain ⟨hB,rg⟩:=stp;obtain ⟨sg,cg0,cg1,cg2⟩:=Fg _ rg)
    go_wp2
    go_ret
    exact ⟨(i:Int),rfl,.inr ⟨i,rfl,hlt,HHB.out.symm⟩,hB⟩
  ·obtain rfl:i=n:=by omega
   go_wp2
   go_ret
   exact ⟨-1,rfl,.inl ⟨rfl,hall⟩,hB⟩
theorem sccontains {l:List RT} (P:Nat→Bool) (G:FuncId) (q:Value) (eg:∀ args w,(callFunc G args).run Tryz.prog w = .ok (.enter G args) w) (p:Option Addr) (n c:Nat) (hn:l.length=n) (hn1:n≤1000000) (w:World) (hp:UAt 58 w p l) (h:∀ i,i<n→∀ W,Below w.heap.size w W→Calls Tryz.prog G #[uV (uD l i),q] W (BoolOk (P i) W)):Calls Tryz.prog 64 #[.slice p n c,.func (.func G) #[] #[q]] w (BoolOk (decide (∃ i,i<n∧P i=true)) w):=by
 have H:=scindex P G q eg p n c hn hn1 w hp h
 clear h hp eg
 unfold BoolOk
 generalize hd:decide (∃ i,i<n∧P i=true)=b
 go_enter Tryz.func64, Tryz.ntmps64
 go_wp2_with fail
 refine H.mono ?_
 rintro e W ⟨r,rfl,hr,h1⟩
 have hb:decide (0≤r)=b:=by
  rw [← hd]
  rcases hr with ⟨rfl,hall⟩ | ⟨i,rfl,hi,hP⟩
  ·exact (decide_eq_false (fun ⟨i,hi,h⟩=>by rw [hall i hi] at h;cases h)).symm
  ·exact (decide_eq_true (by omega)).trans (decide_eq_true ⟨i,hi,hP⟩).symm
 clear hr hd
 have HH:=Lib.hid hb
 go_wp2
 go_ret
 exact ⟨rfl,h1⟩
end Go.Proofs.YtjpkfjmmmmfeeaaGreatDoor
namespace Go.Proofs.YtjpkfjmmmmfeeaaGreatDoor
open Go Go.RowKit Go.Lib Go.Shelf
/-- The numbers of sources are right, and strictly ascend. -/
def SrcU (l:List RT):Prop:=∀ i,i<l.length→1≤(uD l i).s∧(uD l i).s≤1000000∧(0<i→(uD l (i - 1)).s<(uD l i).s)
instance (l:List RT):Decidable (SrcU l):=by unfold SrcU;infer_instance
theorem srcU_of {l:List Trm} (h:SrcOk l):SrcU (raws l):=fun i hi=>by
 rw [raws_length] at hi
 rw [raws_at hi]
 have h1:=h.src _ (trD_mem hi)
 refine ⟨by show 1≤((trD l i).s:Int);omega,by show ((trD l i).s:Int)≤1000000;omega,fun h0 => ?_⟩
 rw [raws_at (show i - 1<l.length by omega)]
 have:=h.lt (show i - 1<i by omega) hi
 show ((trD l (i - 1)).s:Int)<((trD l i).s:Int)
 omega
def IntIs (z:Int) (w:World) (e:Ending) (w':World):Prop:=e = .returned (.int .i64 z)∧Below w.heap.size w w'
theorem asource (x:RT) (w:World):Calls Tryz.prog 76 #[uV x] w (IntIs x.s w):=by
 have hB:Below w.heap.size w w:=Below.refl _ _
 unfold IntIs uV
 go_enter Tryz.func76, Tryz.ntmps76
 go_wp2
 go_ret
 exact ⟨rfl,BW⟩
theorem asrcid (x:RT) (w:World):Calls Tryz.prog 63 #[uV x] w (IntIs x.s w):=by
 have hB:Below w.heap.size w w:=Below.refl _ _
 unfold IntIs uV
 go_enter Tryz.func63, Tryz.ntmps63
 go_wp2
 go_ret
 exact ⟨rfl,BW⟩
theorem aare {l:List RT} (p:Option Addr) (n c:Nat) (hn:l.length=n) (hn1:n≤1000000) (w:World) (hp:UAt 51 w p l):Calls Tryz.prog 75 #[.slice p n c,.func (.func 76) #[] #[]] w (BoolOk (decide (SrcU l)) w):=by
 have hB:Below w.heap.size w w:=Below.refl _ _
 have HP:=Lib.hid hp
 clear hp
 have hnI:(n:Int)≤1000000:=by omega
 have G0:=fun (x:RT) W=>asource x W
 unfold IntIs uV at G0
 generalize hd:decide (SrcU l)=b
 unfold BoolOk
 go_enter Tryz.func75, Tryz.ntmps75
 go_wp2_with fail
 go_loopw [10] (fun v10 wr=>∃ i:Nat,v10 = .int .i64 (i:Int)∧i≤n∧(∀ j,j<i→1≤(uD l j).s∧(uD l j).s≤1000000∧(0<j→(uD l (j - 1)).s<(uD l j).s))∧Below w.heap.size w wr) (fun v10 _=>(n - intOf v10).toNat)
 case atStart=>exact ⟨0,rfl,by omega,fun j hj=>absurd hj (by omega),hB⟩
 case round =>
  clear hB
  obtain ⟨i,rfl,hin,hall,hB⟩:=hrel
  rcases Nat.lt_or_ge i n with hlt | hge
  ·have hlt':i<l.length:=by rw [hn];exact hlt
   obtain ⟨x,hx⟩:∃ x,x=uD l i:=⟨_,rfl⟩
   have hlI:(i:Int)<(n:Int):=by omega
   have KX:=Lib.hid hx
   have HD:=Lib.hid hd
   have HN:=Lib.hid hn
   clear hd hn
   obtain ⟨g,gcur,rfl,rg,g0,g1,g2⟩:=UAt.at (UAt.below HP.out hB) hlt'
   rw [← hx] at g0 g1 g2
   clear hx
   have Fg:∀ X,Row X g (.cells gcur 51)→(g<X.heap.size∧X.cell? ⟨g,i * 3,none⟩=some (.int .i64 x.s)∧X.cell? ⟨g,i * 3+1,none⟩=some (.string x.a)∧X.cell? ⟨g,i * 3+2,none⟩=some (.string x.b)):=fun X h=>⟨h.1,Row.cell_at h _ g0,Row.cell_at h _ g1,Row.cell_at h _ g2⟩
   obtain ⟨sg,cg0,cg1,cg2⟩:=Fg _ rg
   rcases (show x.s<1∨(1≤x.s∧1000000<x.s)∨(1≤x.s∧x.s≤1000000) by omega) with hs | ⟨hs,hs2⟩ | ⟨hs,hs2⟩
   ·have a1:decide (x.s<1)=true:=decide_eq_true hs
    clear hall
    go_wp2_with fail
    have sB:=hB.size
    refine world_cut (fun X=>Below w.heap.size w X∧Row X g (.cells gcur 51)∧Row X wr.heap.size (.cells #[.int .i64 x.s,.string x.a,.string x.b] 51)) ⟨BW,RWh,RWh⟩ ?_
    clear rg
    clear sg cg0 cg1 cg2
    clear hB sB
    rintro V1 ⟨hB,rg,rb0⟩
    obtain ⟨sg,cg0,cg1,cg2⟩:=Fg _ rg
    obtain ⟨sb0,cb00,cb01,cb02⟩:=RF3 rb0
    refine (G0 _ _).mono ?_
    rintro e W2 ⟨rfl,h1⟩
    have stp:=St2 hB h1 rg rb0;clear hB h1 rg sg cg0 cg1 cg2 rb0 sb0 cb00 cb01 cb02
    obtain ⟨hB,rg,rb0⟩:=stp
    obtain ⟨sg,cg0,cg1,cg2⟩:=Fg _ rg
    obtain ⟨sb0,cb00,cb01,cb02⟩:=RF3 rb0
    go_wp2
    go_ret
    have hb:b=false:=HD.out.symm.trans (decide_eq_false fun h=>by have k:=h i hlt';rw [← KX.out] at k;omega)
    exact ⟨by rw [hb];rfl,hB⟩
   ·clear hall
    have a1:decide (x.s<1)=false:=decide_eq_false (by omega)
    have a2:decide (1000000<x.s)=true:=decide_eq_true hs2
    go_wp2_with fail
    have sB:=hB.size
    refine world_cut (fun X=>Below w.heap.size w X∧Row X g (.cells gcur 51)∧Row X wr.heap.size (.cells #[.int .i64 x.s,.string x.a,.string x.b] 51)) ⟨BW,RWh,RWh⟩ ?_
    clear rg
    clear sg cg0 cg1 cg2
    clear hB sB
    rintro V1 ⟨hB,rg,rb0⟩
    obtain ⟨sg,cg0,cg1,cg2⟩:=Fg _ rg
    obtain ⟨sb0,cb00,cb01,cb02⟩:=RF3 rb0
    refine (G0 _ _).mono ?_
    rintro e W2 ⟨rfl,h1⟩
    have stp:=St2 hB h1 rg rb0;clear hB h1 rg sg cg0 cg1 cg2 rb0 sb0 cb00 cb01 cb02
    obtain ⟨hB,rg,rb0⟩:=stp
    obtain ⟨sg,cg0,cg1,cg2⟩:=Fg _ rg
    obtain ⟨sb0,cb00,cb01,cb02⟩:=RF3 rb0
    go_wp2
    go_ret
    have hb:b=false:=HD.out.symm.trans (decide_eq_false fun h=>by have k:=h i hlt';rw [← KX.out] at k;omega)
    exact ⟨by rw [hb];rfl,hB⟩
   ·have a1:decide (x.s<1)=false:=decide_eq_false (by omega)
    have a2:decide (1000000<x.s)=false:=decide_eq_false (by omega)
    have a1b:¬ x.s<1:=by omega
    have a2b:¬ 1000000<x.s:=by omega
    obtain ⟨k,hk⟩:∃ k:Nat,k=i - 1:=⟨_,rfl⟩
    rcases Nat.eq_zero_or_pos i with hi0 | hi0
    ·have a3:¬ (0:Int)<(i:Int):=by omega
     have HI0:=Lib.hid hi0
     clear hk k hi0
     go_wp2_with fail
     have sB:=hB.size
     refine world_cut (fun X=>Below w.heap.size w X∧Row X g (.cells gcur 51)∧Row X wr.heap.size (.cells #[.int .i64 x.s,.string x.a,.string x.b] 51)) ⟨BW,RWh,RWh⟩ ?_
     clear rg
     clear sg cg0 cg1 cg2
     clear hB sB
     rintro V1 ⟨hB,rg,rb0⟩
     obtain ⟨sg,cg0,cg1,cg2⟩:=Fg _ rg
     obtain ⟨sb0,cb00,cb01,cb02⟩:=RF3 rb0
     refine (G0 _ _).mono ?_
     rintro e W2 ⟨rfl,h1⟩
     have stp:=St2 hB h1 rg rb0;clear hB h1 rg sg cg0 cg1 cg2 rb0 sb0 cb00 cb01 cb02
     obtain ⟨hB,rg,rb0⟩:=stp
     obtain ⟨sg,cg0,cg1,cg2⟩:=Fg _ rg
     obtain ⟨sb0,cb00,cb01,cb02⟩:=RF3 rb0
     go_wp2
     go_roundw
     case rel=>exact ⟨i+1,by go_num,by omega,fun j hj=>by rcases Nat.lt_succ_iff_lt_or_eq.1 hj with h | h;(· exact hall j h);(· subst h;rw [← KX.out];exact ⟨by omega,by omega,fun h=>absurd h (by have:=HI0.out;omega)⟩),BW⟩
     case measure=>simp [intOf];omega
    ·have a3:(0:Int)<(i:Int):=by omega
     have hlk:k<l.length:=by omega
     have hmx:max ((i:Int) - 1) 0=(k:Int):=by omega
     have hkn:(k:Int)<(n:Int):=by omega
     have HK:=Lib.hid hk
     clear hk
     obtain ⟨y,hy⟩:∃ y,y=uD l k:=⟨_,rfl⟩
     have KY:=Lib.hid hy
     obtain ⟨g',gc2,hgg,rg2,g3,g4,g5⟩:=UAt.at (UAt.below HP.out hB) hlk
     obtain rfl:g=g':=by simpa using hgg
     obtain rfl:gcur=gc2:=by have:=rg.2.symm.trans rg2.2;simpa using this
     rw [← hy] at g3 g4 g5
     clear hgg hy rg2 hlk
     clear sg cg0 cg1 cg2
     clear Fg
     have Fg:∀ X,Row X g (.cells gcur 51)→(g<X.heap.size∧X.cell? ⟨g,i * 3,none⟩=some (.int .i64 x.s)∧X.cell? ⟨g,i * 3+1,none⟩=some (.string x.a)∧X.cell? ⟨g,i * 3+2,none⟩=some (.string x.b)∧X.cell? ⟨g,k * 3,none⟩=some (.int .i64 y.s)∧X.cell? ⟨g,k * 3+1,none⟩=some (.string y.a)∧X.cell? ⟨g,k * 3+2,none⟩=some (.string y.b)):=fun X h=>⟨h.1,Row.cell_at h _ g0,Row.cell_at h _ g1,Row.cell_at h _ g2,Row.cell_at h _ g3,Row.cell_at h _ g4,Row.cell_at h _ g5⟩
     obtain ⟨sg,cg0,cg1,cg2,cg3,cg4,cg5⟩:=Fg _ rg
     rcases (show x.s≤y.s∨y.s<x.s by omega) with hxy | hxy
     ·clear hall
      go_wp2_with fail
      have sB:=hB.size
      refine world_cut (fun X=>Below w.heap.size w X∧Row X g (.cells gcur 51)∧Row X wr.heap.size (.cells #[.int .i64 x.s,.string x.a,.string x.b] 51)) ⟨BW,RWh,RWh⟩ ?_
      clear rg
      clear sg cg0 cg1 cg2 cg3 cg4 cg5
      clear hB sB
      rintro V1 ⟨hB,rg,rb0⟩
      obtain ⟨sg,cg0,cg1,cg2,cg3,cg4,cg5⟩:=Fg _ rg
      obtain ⟨sb0,cb00,cb01,cb02⟩:=RF3 rb0
      refine (G0 _ _).mono ?_
      rintro e W2 ⟨rfl,h1⟩
      have stp:=St2 hB h1 rg rb0;clear hB h1 rg sg cg0 cg1 cg2 cg3 cg4 cg5 rb0 sb0 cb00 cb01 cb02
      obtain ⟨hB,rg,rb0⟩:=stp
      obtain ⟨sg,cg0,cg1,cg2,cg3,cg4,cg5⟩:=Fg _ rg
      obtain ⟨sb0,cb00,cb01,cb02⟩:=RF3 rb0
      go_wp2_with fail
      refine (G0 _ _).mono ?_
      rintro e W3 ⟨rfl,h1⟩
      have stp:=St2 hB h1 rg rb0;clear hB h1 rg sg cg0 cg1 cg2 cg3 cg4 cg5 rb0 sb0 cb00 cb01 cb02
      obtain ⟨hB,rg,rb0⟩:=stp
      obtain ⟨sg,cg0,cg1,cg2,cg3,cg4,cg5⟩:=Fg _ rg
      obtain ⟨sb0,cb00,cb01,cb02⟩:=RF3 rb0
      go_wp2
      go_ret
      have hb:b=false:=HD.out.symm.trans (decide_eq_false fun h=>by have k:=h i hlt';rw [← KX.out] at k;have k2:=k.2.2 hi0;rw [← HK.out,← KY.out] at k2;omega)
      exact ⟨by rw [hb];rfl,hB⟩
     ·have hxy2:¬ x.s≤y.s:=by omega
      go_wp2_with fail
      have sB:=hB.size
      refine world_cut (fun X=>Below w.heap.size w X∧Row X g (.cells gcur 51)∧Row X wr.heap.size (.cells #[.int .i64 x.s,.string x.a,.string x.b] 51)) ⟨BW,RWh,RWh⟩ ?_
      clear rg
      clear sg cg0 cg1 cg2 cg3 cg4 cg5
      clear hB sB
      rintro V1 ⟨hB,rg,rb0⟩
      obtain ⟨sg,cg0,cg1,cg2,cg3,cg4,cg5⟩:=Fg _ rg
      obtain ⟨sb0,cb00,cb01,cb02⟩:=RF3 rb0
      refine (G0 _ _).mono ?_
      rintro e W2 ⟨rfl,h1⟩
      have stp:=St2 hB h1 rg rb0;clear hB h1 rg sg cg0 cg1 cg2 cg3 cg4 cg5 rb0 sb0 cb00 cb01 cb02
      obtain ⟨hB,rg,rb0⟩:=stp
      obtain ⟨sg,cg0,cg1,cg2,cg3,cg4,cg5⟩:=Fg _ rg
      obtain ⟨sb0,cb00,cb01,cb02⟩:=RF3 rb0
      go_wp2_with fail
      refine (G0 _ _).mono ?_
      rintro e W3 ⟨rfl,h1⟩
      have stp:=St2 hB h1 rg rb0;clear hB h1 rg sg cg0 cg1 cg2 cg3 cg4 cg5 rb0 sb0 cb00 cb01 cb02
      obtain ⟨hB,rg,rb0⟩:=stp
      obtain ⟨sg,cg0,cg1,cg2,cg3,cg4,cg5⟩:=Fg _ rg
      obtain ⟨sb0,cb00,cb01,cb02⟩:=RF3 rb0
      go_wp2
      go_roundw
      case rel=>exact ⟨i+1,by go_num,by omega,fun j hj=>by rcases Nat.lt_succ_iff_lt_or_eq.1 hj with h | h;(· exact hall j h);(· subst h;rw [← KX.out];exact ⟨by omega,by omega,fun _=>by rw [← HK.out,← KY.out];exact hxy⟩),BW⟩
      case measure=>simp [intOf];omega
  ·obtain rfl:i=n:=by omega
   have hb:b=true:=hd.symm.trans (decide_eq_true fun j hj=>hall j (by omega))
   subst hb
   clear hd
   go_wp2
   go_ret
   exact ⟨rfl,hB⟩
theorem aareS {l:List RT} (p:Option Addr) (n c:Nat) (hn:l.length=n) (hn1:n≤1000000) (w:World) (hp:UAt 58 w p l):Calls Tryz.prog 62 #[.slice p n c,.func (.func 63) #[] #[]] w (BoolOk (decide (SrcU l)) w):=by
 have hB:Below w.heap.size w w:=Below.refl _ _
 have HP:=Lib.hid hp
 clear hp
 have hnI:(n:Int)≤1000000:=by omega
 have G0:=fun (x:RT) W=>asrcid x W
 unfold IntIs uV at G0
 generalize hd:decide (SrcU l)=b
 unfold BoolOk
 go_enter Tryz.func62, Tryz.ntmps62
 go_wp2_with fail
 go_loopw [10] (fun v10 wr=>∃ i:Nat,v10 = .int .i64 (i:Int)∧i≤n∧(∀ j,j<i→1≤(uD l j).s∧(uD l j).s≤1000000∧(0<j→(uD l (j - 1)).s<(uD l j).s))∧Below w.heap.size w wr) (fun v10 _=>(n - intOf v10).toNat)
 case atStart=>exact ⟨0,rfl,by omega,fun j hj=>absurd hj (by omega),hB⟩
 case round =>
  clear hB
  obtain ⟨i,rfl,hin,hall,hB⟩:=hrel
  rcases Nat.lt_or_ge i n with hlt | hge
  ·have hlt':i<l.length:=by rw [hn];exact hlt
   obtain ⟨x,hx⟩:∃ x,x=uD l i:=⟨_,rfl⟩
   have hlI:(i:Int)<(n:Int):=by omega
   have KX:=Lib.hid hx
   have HD:=Lib.hid hd
   have HN:=Lib.hid hn
   clear hd hn
   obtain ⟨g,gcur,rfl,rg,g0,g1,g2⟩:=UAt.at (UAt.below HP.out hB) hlt'
   rw [← hx] at g0 g1 g2
   clear hx
   have Fg:∀ X,Row X g (.cells gcur 58)→(g<X.heap.size∧X.cell? ⟨g,i * 3,none⟩=some (.int .i64 x.s)∧X.cell? ⟨g,i * 3+1,none⟩=some (.string x.a)∧X.cell? ⟨g,i * 3+2,none⟩=some (.string x.b)):=fun X h=>⟨h.1,Row.cell_at h _ g0,Row.cell_at h _ g1,Row.cell_at h _ g2⟩
   obtain ⟨sg,cg0,cg1,cg2⟩:=Fg _ rg
   rcases (show x.s<1∨(1≤x.s∧1000000<x.s)∨(1≤x.s∧x.s≤1000000) by omega) with hs | ⟨hs,hs2⟩ | ⟨hs,hs2⟩
   ·have a1:decide (x.s<1)=true:=decide_eq_true hs
    clear hall
    go_wp2_with fail
    have sB:=hB.size
    refine world_cut (fun X=>Below w.heap.size w X∧Row X g (.cells gcur 58)∧Row X wr.heap.size (.cells #[.int .i64 x.s,.string x.a,.string x.b] 58)) ⟨BW,RWh,RWh⟩ ?_
    clear rg
    clear sg cg0 cg1 cg2
    clear hB sB
    rintro V1 ⟨hB,rg,rb0⟩
    obtain ⟨sg,cg0,cg1,cg2⟩:=Fg _ rg
    obtain ⟨sb0,cb00,cb01,cb02⟩:=RF3 rb0
    refine (G0 _ _).mono ?_
    rintro e W2 ⟨rfl,h1⟩
    have stp:=St2 hB h1 rg rb0;clear hB h1 rg sg cg0 cg1 cg2 rb0 sb0 cb00 cb01 cb02
    obtain ⟨hB,rg,rb0⟩:=stp
    obtain ⟨sg,cg0,cg1,cg2⟩:=Fg _ rg
    obtain ⟨sb0,cb00,cb01,cb02⟩:=RF3 rb0
    go_wp2
    go_ret
    have hb:b=false:=HD.out.symm.trans (decide_eq_false fun h=>by have k:=h i hlt';rw [← KX.out] at k;omega)
    exact ⟨by rw [hb];rfl,hB⟩
   ·clear hall
    have a1:decide (x.s<1)=false:=decide_eq_false (by omega)
    have a2:decide (1000000<x.s)=true:=decide_eq_true hs2
    go_wp2_with fail
    have sB:=hB.size
    refine world_cut (fun X=>Below w.heap.size w X∧Row X g (.cells gcur 58)∧Row X wr.heap.size (.cells #[.int .i64 x.s,.string x.a,.string x.b] 58)) ⟨BW,RWh,RWh⟩ ?_
    clear rg
    clear sg cg0 cg1 cg2
    clear hB sB
    rintro V1 ⟨hB,rg,rb0⟩
    obtain ⟨sg,cg0,cg1,cg2⟩:=Fg _ rg
    obtain ⟨sb0,cb00,cb01,cb02⟩:=RF3 rb0
    refine (G0 _ _).mono ?_
    rintro e W2 ⟨rfl,h1⟩
    have stp:=St2 hB h1 rg rb0;clear hB h1 rg sg cg0 cg1 cg2 rb0 sb0 cb00 cb01 cb02
    obtain ⟨hB,rg,rb0⟩:=stp
    obtain ⟨sg,cg0,cg1,cg2⟩:=Fg _ rg
    obtain ⟨sb0,cb00,cb01,cb02⟩:=RF3 rb0
    go_wp2
    go_ret
    have hb:b=false:=HD.out.symm.trans (decide_eq_false fun h=>by have k:=h i hlt';rw [← KX.out] at k;omega)
    exact ⟨by rw [hb];rfl,hB⟩
   ·have a1:decide (x.s<1)=false:=decide_eq_false (by omega)
    have a2:decide (1000000<x.s)=false:=decide_eq_false (by omega)
    have a1b:¬ x.s<1:=by omega
    have a2b:¬ 1000000<x.s:=by omega
    obtain ⟨k,hk⟩:∃ k:Nat,k=i - 1:=⟨_,rfl⟩
    rcases Nat.eq_zero_or_pos i with hi0 | hi0
    ·have a3:¬ (0:Int)<(i:Int):=by omega
     have HI0:=Lib.hid hi0
     clear hk k hi0
     go_wp2_with fail
     have sB:=hB.size
     refine world_cut (fun X=>Below w.heap.size w X∧Row X g (.cells gcur 58)∧Row X wr.heap.size (.cells #[.int .i64 x.s,.string x.a,.string x.b] 58)) ⟨BW,RWh,RWh⟩ ?_
     clear rg
     clear sg cg0 cg1 cg2
     clear hB sB
     rintro V1 ⟨hB,rg,rb0⟩
     obtain ⟨sg,cg0,cg1,cg2⟩:=Fg _ rg
     obtain ⟨sb0,cb00,cb01,cb02⟩:=RF3 rb0
     refine (G0 _ _).mono ?_
     rintro e W2 ⟨rfl,h1⟩
     have stp:=St2 hB h1 rg rb0;clear hB h1 rg sg cg0 cg1 cg2 rb0 sb0 cb00 cb01 cb02
     obtain ⟨hB,rg,rb0⟩:=stp
     obtain ⟨sg,cg0,cg1,cg2⟩:=Fg _ rg
     obtain ⟨sb0,cb00,cb01,cb02⟩:=RF3 rb0
     go_wp2
     go_roundw
     case rel=>exact ⟨i+1,by go_num,by omega,fun j hj=>by rcases Nat.lt_succ_iff_lt_or_eq.1 hj with h | h;(· exact hall j h);(· subst h;rw [← KX.out];exact ⟨by omega,by omega,fun h=>absurd h (by have:=HI0.out;omega)⟩),BW⟩
     case measure=>simp [intOf];omega
    ·have a3:(0:Int)<(i:Int):=by omega
     have hlk:k<l.length:=by omega
     have hmx:max ((i:Int) - 1) 0=(k:Int):=by omega
     have hkn:(k:Int)<(n:Int):=by omega
     have HK:=Lib.hid hk
     clear hk
     obtain ⟨y,hy⟩:∃ y,y=uD l k:=⟨_,rfl⟩
     have KY:=Lib.hid hy
     obtain ⟨g',gc2,hgg,rg2,g3,g4,g5⟩:=UAt.at (UAt.below HP.out hB) hlk
     obtain rfl:g=g':=by simpa using hgg
     obtain rfl:gcur=gc2:=by have:=rg.2.symm.trans rg2.2;simpa using this
     rw [← hy] at g3 g4 g5
     clear hgg hy rg2 hlk
     clear sg cg0 cg1 cg2
     clear Fg
     have Fg:∀ X,Row X g (.cells gcur 58)→(g<X.heap.size∧X.cell? ⟨g,i * 3,none⟩=some (.int .i64 x.s)∧X.cell? ⟨g,i * 3+1,none⟩=some (.string x.a)∧X.cell? ⟨g,i * 3+2,none⟩=some (.string x.b)∧X.cell? ⟨g,k * 3,none⟩=some (.int .i64 y.s)∧X.cell? ⟨g,k * 3+1,none⟩=some (.string y.a)∧X.cell? ⟨g,k * 3+2,none⟩=some (.string y.b)):=fun X h=>⟨h.1,Row.cell_at h _ g0,Row.cell_at h _ g1,Row.cell_at h _ g2,Row.cell_at h _ g3,Row.cell_at h _ g4,Row.cell_at h _ g5⟩
     obtain ⟨sg,cg0,cg1,cg2,cg3,cg4,cg5⟩:=Fg _ rg
     rcases (show x.s≤y.s∨y.s<x.s by omega) with hxy | hxy
     ·clear hall
      go_wp2_with fail
      have sB:=hB.size
      refine world_cut (fun X=>Below w.heap.size w X∧Row X g (.cells gcur 58)∧Row X wr.heap.size (.cells #[.int .i64 x.s,.string x.a,.string x.b] 58)) ⟨BW,RWh,RWh⟩ ?_
      clear rg
      clear sg cg0 cg1 cg2 cg3 cg4 cg5
      clear hB sB
      rintro V1 ⟨hB,rg,rb0⟩
      obtain ⟨sg,cg0,cg1,cg2,cg3,cg4,cg5⟩:=Fg _ rg
      obtain ⟨sb0,cb00,cb01,cb02⟩:=RF3 rb0
      refine (G0 _ _).mono ?_
      rintro e W2 ⟨rfl,h1⟩
      have stp:=St2 hB h1 rg rb0;clear hB h1 rg sg cg0 cg1 cg2 cg3 cg4 cg5 rb0 sb0 cb00 cb01 cb02
      obtain ⟨hB,rg,rb0⟩:=stp
      obtain ⟨sg,cg0,cg1,cg2,cg3,cg4,cg5⟩:=Fg _ rg
      obtain ⟨sb0,cb00,cb01,cb02⟩:=RF3 rb0
      go_wp2_with fail
      refine (G0 _ _).mono ?_
      rintro e W3 ⟨rfl,h1⟩
      have stp:=St2 hB h1 rg rb0;clear hB h1 rg sg cg0 cg1 cg2 cg3 cg4 cg5 rb0 sb0 cb00 cb01 cb02
      obtain ⟨hB,rg,rb0⟩:=stp
      obtain ⟨sg,cg0,cg1,cg2,cg3,cg4,cg5⟩:=Fg _ rg
      obtain ⟨sb0,cb00,cb01,cb02⟩:=RF3 rb0
      go_wp2
      go_ret
      have hb:b=false:=HD.out.symm.trans (decide_eq_false fun h=>by have k:=h i hlt';rw [← KX.out] at k;have k2:=k.2.2 hi0;rw [← HK.out,← KY.out] at k2;omega)
      exact ⟨by rw [hb];rfl,hB⟩
     ·have hxy2:¬ x.s≤y.s:=by omega
      go_wp2_with fail
      have sB:=hB.size
      refine world_cut (fun X=>Below w.heap.size w X∧Row X g (.cells gcur 58)∧Row X wr.heap.size (.cells #[.int .i64 x.s,.string x.a,.string x.b] 58)) ⟨BW,RWh,RWh⟩ ?_
      clear rg
      clear sg cg0 cg1 cg2 cg3 cg4 cg5
      clear hB sB
      rintro V1 ⟨hB,rg,rb0⟩
      obtain ⟨sg,cg0,cg1,cg2,cg3,cg4,cg5⟩:=Fg _ rg
      obtain ⟨sb0,cb00,cb01,cb02⟩:=RF3 rb0
      refine (G0 _ _).mono ?_
      rintro e W2 ⟨rfl,h1⟩
      have stp:=St2 hB h1 rg rb0;clear hB h1 rg sg cg0 cg1 cg2 cg3 cg4 cg5 rb0 sb0 cb00 cb01 cb02
      obtain ⟨hB,rg,rb0⟩:=stp
      obtain ⟨sg,cg0,cg1,cg2,cg3,cg4,cg5⟩:=Fg _ rg
      obtain ⟨sb0,cb00,cb01,cb02⟩:=RF3 rb0
      go_wp2_with fail
      refine (G0 _ _).mono ?_
      rintro e W3 ⟨rfl,h1⟩
      have stp:=St2 hB h1 rg rb0;clear hB h1 rg sg cg0 cg1 cg2 cg3 cg4 cg5 rb0 sb0 cb00 cb01 cb02
      obtain ⟨hB,rg,rb0⟩:=stp
      obtain ⟨sg,cg0,cg1,cg2,cg3,cg4,cg5⟩:=Fg _ rg
      obtain ⟨sb0,cb00,cb01,cb02⟩:=RF3 rb0
      go_wp2
      go_roundw
      case rel=>exact ⟨i+1,by go_num,by omega,fun j hj=>by rcases Nat.lt_succ_iff_lt_or_eq.1 hj with h | h;(· exact hall j h);(· subst h;rw [← KX.out];exact ⟨by omega,by omega,fun _=>by rw [← HK.out,← KY.out];exact hxy⟩),BW⟩
      case measure=>simp [intOf];omega
  ·obtain rfl:i=n:=by omega
   have hb:b=true:=hd.symm.trans (decide_eq_true fun j hj=>hall j (by omega))
   subst hb
   clear hd
   go_wp2
   go_ret
   exact ⟨rfl,hB⟩
end Go.Proofs.YtjpkfjmmmmfeeaaGreatDoor
