/-
 Package rational, over fractions whose parts are short: the exported functions. Package rational, over fractions whose parts are short: sums and differences. Words for walks whose variables are blocks of cells: what a block holds, from world to world. Chains of tactics that the walks use again and again, each behind the name of a theorem whose argument is automatic: the chain runs where the name stands. Package enclosure: check, and compute with its deferred closure: a result is handed back; a panic with errFails becomes ErrEnclosure.
-/
import Derived.Deep.RegionHeld3
import Derived.Defers
import Derived.LaidEql
import Derived.Recover
import Derived.RowKitTokens
import Derived.Stop.Asserts
import Derived.Test.YtnokpldomlmamaaGreatDoorProg
import Derived.WalkKit
import Derived.WalkMore
import Derived.Test.YtnokpldomlmamaaGreatDoorKQCheck1
import Derived.Test.YtnokpldomlmamaaGreatDoorKQPlain6
set_option maxRecDepth 100000
set_option maxHeartbeats 1000000
namespace Go.Proofs.YtnokpldomlmamaaGreatDoor
open Go Go.RowKit Go.Lib Go.Shelf
theorem wk_new (w:World):Wk (w.alloc (.cells #[.bool false] 142)) w.heap.size:=⟨by simp,heap_alloc_new _ _⟩
/-- Five new variables. -/
theorem five_new (w:World) (o1 o2 o3 o4 o5:Obj):Row (((((w.alloc o1).alloc o2).alloc o3).alloc o4).alloc o5) w.heap.size o1∧Row (((((w.alloc o1).alloc o2).alloc o3).alloc o4).alloc o5) (w.heap.size+1) o2
  ∧ Row (((((w.alloc o1).alloc o2).alloc o3).alloc o4).alloc o5) (w.heap.size+1+1) o3∧Row (((((w.alloc o1).alloc o2).alloc o3).alloc o4).alloc o5) (w.heap.size+1+1+1) o4
  ∧ Row (((((w.alloc o1).alloc o2).alloc o3).alloc o4).alloc o5) (w.heap.size+1+1+1+1) o5∧Below w.heap.size w (((((w.alloc o1).alloc o2).alloc o3).alloc o4).alloc o5):=by
 have e1:(w.alloc o1).heap.size=w.heap.size+1:=by simp
 have e2:((w.alloc o1).alloc o2).heap.size=w.heap.size+1+1:=by simp
 have e3:(((w.alloc o1).alloc o2).alloc o3).heap.size=w.heap.size+1+1+1:=by simp
 have e4:((((w.alloc o1).alloc o2).alloc o3).alloc o4).heap.size=w.heap.size+1+1+1+1:=by simp
 refine ⟨((((row_new w o1).alloc o2).alloc o3).alloc o4).alloc o5,?_,?_,?_,?_,?_⟩
 ·rw [← e1];exact (((row_new (w.alloc o1) o2).alloc o3).alloc o4).alloc o5
 ·rw [← e2];exact ((row_new ((w.alloc o1).alloc o2) o3).alloc o4).alloc o5
 ·rw [← e3];exact (row_new (((w.alloc o1).alloc o2).alloc o3) o4).alloc o5
 ·rw [← e4];exact row_new ((((w.alloc o1).alloc o2).alloc o3).alloc o4) o5
 ·have h:=Below.refl w.heap.size w
  exact ((((h.alloc (Nat.le_refl _) o1).alloc (by omega) o2).alloc (by omega) o3).alloc (by omega) o4).alloc (by omega) o5
theorem qmake {a b:ByteArray} {n d:Int} (ha:Is a n) (hb:Is b d) (hn:Fits n) (hd:Fits d) (hd0:d≠0) (w:World) (he:Env w) :
  Calls Tryz.prog 186 #[.string a,.string b] w (QOk (Rat.divInt n d) w):=by
 have V1:Hid (validB a.data.toList=true):=Lib.hid (ha.valid hn)
 have V2:Hid (validB b.data.toList=true):=Lib.hid (hb.valid hd)
 have hr:=row_new w (.cells #[.string ⟨#[]⟩,.string ⟨#[]⟩] 23)
 have hB:=(Below.refl w.heap.size w).alloc (Nat.le_refl _) (.cells #[.string ⟨#[]⟩,.string ⟨#[]⟩] 23)
 go_enter Tryz.func186, Tryz.ntmps186
 go_wp2_with fail
 refine (validS V1 (ha.str hn) _).mono ?_
 rintro e W ⟨rfl,h1⟩
 replace hB:=hB.trans (h1.mono hB.size)
 replace hr:=hr.below h1
 clear h1
 go_wp2_with fail
 refine (validS V2 (hb.str hd) _).mono ?_
 rintro e W ⟨rfl,h1⟩
 replace hB:=hB.trans (h1.mono hB.size)
 replace hr:=hr.below h1
 clear h1
 go_wp2_with fail
 refine (wreduced W.heap.size ha hb hn hd hd0 _ (he.below (hB.alloc hB.size _)) (wk_new _)).mono ?_
 rintro e W3 ⟨rfl,h1⟩
 replace hB:=(hB.alloc hB.size _).trans (h1.mono (hB.alloc hB.size _).size)
 replace hr:=(hr.alloc _).below h1
 unfold QOk Q
 generalize Rat.divInt n d=q at *
 obtain ⟨c5,c6,f5,f6⟩:=two_facts hr.2
 have hst:=store_two hr.2 (.string (S q.num)) (.string (S (q.den:Int)))
 obtain ⟨g1,g2,_,_⟩:=two_facts hst
 have hBs:=(hB.setCell (p:=⟨w.heap.size,0,none⟩) (by simp) (.string (S q.num))).setCell (p:=⟨w.heap.size,1,none⟩) (by simp) (.string (S (q.den:Int)))
 go_wp2
 refine bodyPost_ret (v := .tuple #[.agg #[.string (S q.num),.string (S (q.den:Int))],.int .i64 0]) ?res rfl ⟨rfl,hBs⟩
 case res=>simp [results,Tryz.f186, go_sem,g1,g2]
/-- A product, a quotient is not too large. -/
structure MF (a b:Rat):Prop where
 da:QDig 200 a
 db:QDig 200 b
 n:Fits (a.num * b.num)
 d:Fits ((a.den:Int) * (b.den:Int))
structure DF (a b:Rat):Prop where
 da:QDig 200 a
 db:QDig 200 b
 n:Fits (a.num * (b.den:Int))
 d:Fits ((a.den:Int) * b.num)
 b0:b≠0
theorem MF.of {j k:Nat} {a b:Rat} (ha:QDig j a) (hb:QDig k b) (hjk:j+k≤200):MF a b:=⟨ha.mono (by omega),hb.mono (by omega),(ha.1.mul hb.1).fits (by omega),(ha.2.mul hb.2).fits (by omega)⟩
theorem DF.of {j k:Nat} {a b:Rat} (ha:QDig j a) (hb:QDig k b) (hjk:j+k≤200) (hb0:b≠0):DF a b:=⟨ha.mono (by omega),hb.mono (by omega),(ha.1.mul hb.2).fits (by omega),(ha.2.mul hb.1).fits (by omega),hb0⟩
theorem qmulF {a b:Rat} (h:MF a b) (w:World) (he:Env w) :
  Calls Tryz.prog 41 #[Q a,Q b] w (QOk (a * b) w):=by
 have ha':=h.da
 have hb':=h.db
 obtain ⟨n,hn⟩:∃ n,n=a.num * b.num:=⟨_,rfl⟩
 obtain ⟨d,hd⟩:∃ d,d=(a.den:Int) * (b.den:Int):=⟨_,rfl⟩
 have E:Rat.divInt n d=a * b:=by rw [hn,hd];exact mul_parts a b
 have N1:=Lib.hid hn.symm
 have N2:=Lib.hid hd.symm
 have fn:Fits n:=by rw [hn];exact h.n
 have fd:Fits d:=by rw [hd];exact h.d
 have d0:d≠0:=by rw [hd];exact by have:=den_pos a;have:=den_pos b;exact Int.ne_of_gt (Int.mul_pos (by omega) (by omega))
 have ia:=is_S a.num
 have ib:=is_S b.num
 have ja:=is_S (a.den:Int)
 have jb:=is_S (b.den:Int)
 have fa:Fits a.num:=ha'.1
 have fb:Fits b.num:=hb'.1
 have ga:Fits (a.den:Int):=ha'.2
 have gb:Fits (b.den:Int):=hb'.2
 have jn:=is_S n
 have jd:=is_S d
 obtain ⟨r1,r2,r3,r4,r5,hB⟩:=five_new w (.cells #[.string (S a.num),.string (S (a.den:Int))] 23) (.cells #[.string (S b.num),.string (S (b.den:Int))] 23) (.cells #[.string ⟨#[]⟩,.string ⟨#[]⟩] 23) (.cells #[.bool false] 142) (.cells #[.string (S a.num),.string (S (a.den:Int)),.string (S b.num),.string (S (b.den:Int))] 23)
 rw [← E]
 unfold QOk
 show Calls Tryz.prog 41 #[.agg #[.string (S a.num),.string (S (a.den:Int))],.agg #[.string (S b.num),.string (S (b.den:Int))]] w _
 clear hn hd E h
 go_enter Tryz.func41, Tryz.ntmps41
 go_wp2_with fail
 generalize (((((w.alloc (.cells #[.string (S a.num),.string (S (a.den:Int))] 23)).alloc (.cells #[.string (S b.num),.string (S (b.den:Int))] 23)).alloc (.cells #[.string ⟨#[]⟩,.string ⟨#[]⟩] 23)).alloc (.cells #[.bool false] 142)).alloc (.cells #[.string (S a.num),.string (S (a.den:Int)),.string (S b.num),.string (S (b.den:Int))] 23))=W0 at *
 replace r4:Wk W0 _:=r4
 refine (wcheck2 _ _ a b ha' hb' _ (he.below hB) r4 r5).mono ?_
 rintro e W ⟨rfl,h1⟩
 replace hB:=hB.trans (h1.mono hB.size)
 replace r1:=r1.below h1
 replace r2:=r2.below h1
 replace r3:=r3.below h1
 replace r4:=Wk.below r4 h1
 obtain ⟨a1,a2,_,_⟩:=two_facts r1.2
 obtain ⟨b1,b2,_,_⟩:=two_facts r2.2
 clear h1
 clear r5
 go_wp2_with fail
 refine (wmul _ ia ib N1 fa fb fn _ (he.below hB) r4).mono ?_
 rintro e W ⟨rfl,h1⟩
 replace hB:=hB.trans (h1.mono hB.size)
 replace r1:=r1.below h1
 replace r2:=r2.below h1
 replace r3:=r3.below h1
 replace r4:=Wk.below r4 h1
 obtain ⟨a1,a2,_,_⟩:=two_facts r1.2
 obtain ⟨b1,b2,_,_⟩:=two_facts r2.2
 clear h1
 go_wp2_with fail
 refine (wmul _ ja jb N2 ga gb fd _ (he.below hB) r4).mono ?_
 rintro e W ⟨rfl,h1⟩
 replace hB:=hB.trans (h1.mono hB.size)
 replace r1:=r1.below h1
 replace r2:=r2.below h1
 replace r3:=r3.below h1
 replace r4:=Wk.below r4 h1
 obtain ⟨a1,a2,_,_⟩:=two_facts r1.2
 obtain ⟨b1,b2,_,_⟩:=two_facts r2.2
 clear h1
 go_wp2_with fail
 refine (wreduced _ jn jd fn fd d0 _ (he.below hB) r4).mono ?_
 rintro e W ⟨rfl,h1⟩
 replace hB:=hB.trans (h1.mono hB.size)
 replace r1:=r1.below h1
 replace r2:=r2.below h1
 replace r3:=r3.below h1
 replace r4:=Wk.below r4 h1
 obtain ⟨a1,a2,_,_⟩:=two_facts r1.2
 obtain ⟨b1,b2,_,_⟩:=two_facts r2.2
 clear h1
 unfold Q
 generalize hq:Rat.divInt n d=q at *
 obtain ⟨x1,x2,x3,x4⟩:=two_facts r3.2
 have hst:=store_two r3.2 (.string (S q.num)) (.string (S (q.den:Int)))
 obtain ⟨g1,g2,_,_⟩:=two_facts hst
 have hBs:=(hB.setCell (p:=⟨w.heap.size+1+1,0,none⟩) (by simp;omega) (.string (S q.num))).setCell (p:=⟨w.heap.size+1+1,1,none⟩) (by simp;omega) (.string (S (q.den:Int)))
 go_wp2
 refine bodyPost_ret (v := .tuple #[.agg #[.string (S q.num),.string (S (q.den:Int))],.int .i64 0]) ?res rfl ⟨by rw [hq];rfl,hBs⟩
 case res=>simp [results,Tryz.f41, go_sem,g1,g2]
theorem qdivF {a b:Rat} (h:DF a b) (w:World) (he:Env w) :
  Calls Tryz.prog 44 #[Q a,Q b] w (QOk (a / b) w):=by
 have ha':=h.da
 have hb':=h.db
 have hb0:=h.b0
 obtain ⟨n,hn⟩:∃ n,n=a.num * (b.den:Int):=⟨_,rfl⟩
 obtain ⟨d,hd⟩:∃ d,d=(a.den:Int) * b.num:=⟨_,rfl⟩
 have E:Rat.divInt n d=a / b:=by rw [hn,hd];exact div_parts a b
 have N1:=Lib.hid hn.symm
 have N2:=Lib.hid hd.symm
 have fn:Fits n:=by rw [hn];exact h.n
 have fd:Fits d:=by rw [hd];exact h.d
 have d0:d≠0:=by rw [hd];exact Int.mul_ne_zero (by have:=den_pos a;omega) (by intro e;exact hb0 (Rat.num_eq_zero.1 e))
 have ia:=is_S a.num
 have ib:=is_S b.num
 have ja:=is_S (a.den:Int)
 have jb:=is_S (b.den:Int)
 have fa:Fits a.num:=ha'.1
 have fb:Fits b.num:=hb'.1
 have ga:Fits (a.den:Int):=ha'.2
 have gb:Fits (b.den:Int):=hb'.2
 have jn:=is_S n
 have jd:=is_S d
 obtain ⟨r1,r2,r3,r4,r5,hB⟩:=five_new w (.cells #[.string (S a.num),.string (S (a.den:Int))] 23) (.cells #[.string (S b.num),.string (S (b.den:Int))] 23) (.cells #[.string ⟨#[]⟩,.string ⟨#[]⟩] 23) (.cells #[.bool false] 142) (.cells #[.string (S a.num),.string (S (a.den:Int)),.string (S b.num),.string (S (b.den:Int))] 23)
 rw [← E]
 unfold QOk
 show Calls Tryz.prog 44 #[.agg #[.string (S a.num),.string (S (a.den:Int))],.agg #[.string (S b.num),.string (S (b.den:Int))]] w _
 clear hn hd E h
 go_enter Tryz.func44, Tryz.ntmps44
 go_wp2_with fail
 generalize (((((w.alloc (.cells #[.string (S a.num),.string (S (a.den:Int))] 23)).alloc (.cells #[.string (S b.num),.string (S (b.den:Int))] 23)).alloc (.cells #[.string ⟨#[]⟩,.string ⟨#[]⟩] 23)).alloc (.cells #[.bool false] 142)).alloc (.cells #[.string (S a.num),.string (S (a.den:Int)),.string (S b.num),.string (S (b.den:Int))] 23))=W0 at *
 replace r4:Wk W0 _:=r4
 refine (wcheck2 _ _ a b ha' hb' _ (he.below hB) r4 r5).mono ?_
 rintro e W ⟨rfl,h1⟩
 replace hB:=hB.trans (h1.mono hB.size)
 replace r1:=r1.below h1
 replace r2:=r2.below h1
 replace r3:=r3.below h1
 replace r4:=Wk.below r4 h1
 obtain ⟨a1,a2,_,_⟩:=two_facts r1.2
 obtain ⟨b1,b2,_,_⟩:=two_facts r2.2
 clear h1
 clear r5
 go_wp2_with fail
 refine (wmul _ ia jb N1 fa gb fn _ (he.below hB) r4).mono ?_
 rintro e W ⟨rfl,h1⟩
 replace hB:=hB.trans (h1.mono hB.size)
 replace r1:=r1.below h1
 replace r2:=r2.below h1
 replace r3:=r3.below h1
 replace r4:=Wk.below r4 h1
 obtain ⟨a1,a2,_,_⟩:=two_facts r1.2
 obtain ⟨b1,b2,_,_⟩:=two_facts r2.2
 clear h1
 go_wp2_with fail
 refine (wmul _ ja ib N2 ga fb fd _ (he.below hB) r4).mono ?_
 rintro e W ⟨rfl,h1⟩
 replace hB:=hB.trans (h1.mono hB.size)
 replace r1:=r1.below h1
 replace r2:=r2.below h1
 replace r3:=r3.below h1
 replace r4:=Wk.below r4 h1
 obtain ⟨a1,a2,_,_⟩:=two_facts r1.2
 obtain ⟨b1,b2,_,_⟩:=two_facts r2.2
 clear h1
 go_wp2_with fail
 refine (wreduced _ jn jd fn fd d0 _ (he.below hB) r4).mono ?_
 rintro e W ⟨rfl,h1⟩
 replace hB:=hB.trans (h1.mono hB.size)
 replace r1:=r1.below h1
 replace r2:=r2.below h1
 replace r3:=r3.below h1
 replace r4:=Wk.below r4 h1
 obtain ⟨a1,a2,_,_⟩:=two_facts r1.2
 obtain ⟨b1,b2,_,_⟩:=two_facts r2.2
 clear h1
 unfold Q
 generalize hq:Rat.divInt n d=q at *
 obtain ⟨x1,x2,x3,x4⟩:=two_facts r3.2
 have hst:=store_two r3.2 (.string (S q.num)) (.string (S (q.den:Int)))
 obtain ⟨g1,g2,_,_⟩:=two_facts hst
 have hBs:=(hB.setCell (p:=⟨w.heap.size+1+1,0,none⟩) (by simp;omega) (.string (S q.num))).setCell (p:=⟨w.heap.size+1+1,1,none⟩) (by simp;omega) (.string (S (q.den:Int)))
 go_wp2
 refine bodyPost_ret (v := .tuple #[.agg #[.string (S q.num),.string (S (q.den:Int))],.int .i64 0]) ?res rfl ⟨by rw [hq];rfl,hBs⟩
 case res=>simp [results,Tryz.f44, go_sem,g1,g2]
end Go.Proofs.YtnokpldomlmamaaGreatDoor
namespace Go.Proofs.YtnokpldomlmamaaGreatDoor
open Go Go.RowKit Go.Lib Go.Shelf
theorem wsum (F:FuncId) (eg:∀ args w,(callFunc F args).run Tryz.prog w = .ok (.enter F args) w) {a b:Rat} {x y n d:Int} {q:Rat} (ha':QDig 200 a) (hb':QDig 200 b)
  (hx:Hid (a.num * (b.den:Int)=x)) (hy:Hid (b.num * (a.den:Int)=y)) (hd:Hid ((a.den:Int) * (b.den:Int)=d)) (fx:Fits x) (fy:Fits y) (fn:Fits n) (fd:Fits d) (d0:d≠0) (E:Rat.divInt n d=q)
  (H:∀ W,Env W→Calls Tryz.prog F #[.string (S x),.string (S y)] W (StrOk n W)) (w:World) (he:Env w) :
  Calls Tryz.prog 110 #[.func (.func F) #[] #[],Q a,Q b] w (QOk q w):=by
 have ia:=is_S a.num
 have ib:=is_S b.num
 have ja:=is_S (a.den:Int)
 have jb:=is_S (b.den:Int)
 have fa:Fits a.num:=ha'.1
 have fb:Fits b.num:=hb'.1
 have ga:Fits (a.den:Int):=ha'.2
 have gb:Fits (b.den:Int):=hb'.2
 have jn:=is_S n
 have jd:=is_S d
 obtain ⟨r1,r2,r3,r4,r5,hB⟩:=five_new w (.cells #[.string (S a.num),.string (S (a.den:Int))] 23) (.cells #[.string (S b.num),.string (S (b.den:Int))] 23) (.cells #[.string ⟨#[]⟩,.string ⟨#[]⟩] 23) (.cells #[.bool false] 142) (.cells #[.string (S a.num),.string (S (a.den:Int)),.string (S b.num),.string (S (b.den:Int))] 23)
 rw [← E]
 unfold QOk
 show Calls Tryz.prog 110 #[.func (.func F) #[] #[],.agg #[.string (S a.num),.string (S (a.den:Int))],.agg #[.string (S b.num),.string (S (b.den:Int))]] w _
 clear E
 go_enter Tryz.func110, Tryz.ntmps110
 go_wp2_with fail
 generalize (((((w.alloc (.cells #[.string (S a.num),.string (S (a.den:Int))] 23)).alloc (.cells #[.string (S b.num),.string (S (b.den:Int))] 23)).alloc (.cells #[.string ⟨#[]⟩,.string ⟨#[]⟩] 23)).alloc (.cells #[.bool false] 142)).alloc (.cells #[.string (S a.num),.string (S (a.den:Int)),.string (S b.num),.string (S (b.den:Int))] 23))=W0 at *
 replace r4:Wk W0 _:=r4
 refine (wcheck2 _ _ a b ha' hb' _ (he.below hB) r4 r5).mono ?_
 rintro e W ⟨rfl,h1⟩
 replace hB:=hB.trans (h1.mono hB.size)
 replace r1:=r1.below h1
 replace r2:=r2.below h1
 replace r3:=r3.below h1
 replace r4:=Wk.below r4 h1
 obtain ⟨a1,a2,_,_⟩:=two_facts r1.2
 obtain ⟨b1,b2,_,_⟩:=two_facts r2.2
 clear h1
 clear r5
 have ix:=is_S x
 have iy:=is_S y
 have M1:=fun W (h:Env W) (h':Wk W (w.heap.size+1+1+1))=>wmul _ ia jb hx fa gb fx W h h'
 have M2:=fun W (h:Env W) (h':Wk W (w.heap.size+1+1+1))=>wmul _ ib ja hy fb ga fy W h h'
 have M3:=fun W (h:Env W) (h':Wk W (w.heap.size+1+1+1))=>wdo _ F _ _ n W eg h' (H W h)
 have M4:=fun W (h:Env W) (h':Wk W (w.heap.size+1+1+1))=>wmul _ ja jb hd ga gb fd W h h'
 have M5:=fun W (h:Env W) (h':Wk W (w.heap.size+1+1+1))=>wreduced _ jn jd fn fd d0 W h h'
 unfold SOk at M1 M2 M3 M4
 clear H ix iy ia ib ja jb jn jd hx hy hd fa fb ga gb fx fy fn fd d0 ha' hb' eg
 generalize S a.num=na at *
 generalize S b.num=nb at *
 generalize S (a.den:Int)=da at *
 generalize S (b.den:Int)=db at *
 generalize S x=sx at *
 generalize S y=sy at *
 generalize S n=sn at *
 generalize S d=sd at *
 go_wp2_with fail
 go_region_held3 (fun X=>X.cell? ⟨w.heap.size,0,none⟩=some (.string na)∧X.cell? ⟨w.heap.size,1,none⟩=some (.string da)∧X.cell? ⟨w.heap.size+1,0,none⟩=some (.string nb)∧X.cell? ⟨w.heap.size+1,1,none⟩=some (.string db)) (first | exact ⟨a1,a2,b1,b2⟩) (first
  | (go_at_call 114; refine (M1 _ (by first | exact he.below hB | exact he.below hB.drew | exact he.below (below_drewN hB _)) (by exact r4)).mono ?_;rintro e W ⟨rfl,h1⟩;(try replace h1:=below_of_drew h1);replace hB:=hB.trans (h1.mono hB.size);replace r1:=r1.below h1;replace r2:=r2.below h1;replace r3:=r3.below h1;replace r4:=Wk.below r4 h1;obtain ⟨a1,a2,_,_⟩:=two_facts r1.2;obtain ⟨b1,b2,_,_⟩:=two_facts r2.2)
  | (go_at_call 114; refine (M2 _ (by first | exact he.below hB | exact he.below hB.drew | exact he.below (below_drewN hB _)) (by exact r4)).mono ?_;rintro e W ⟨rfl,h1⟩;(try replace h1:=below_of_drew h1);replace hB:=hB.trans (h1.mono hB.size);replace r1:=r1.below h1;replace r2:=r2.below h1;replace r3:=r3.below h1;replace r4:=Wk.below r4 h1;obtain ⟨a1,a2,_,_⟩:=two_facts r1.2;obtain ⟨b1,b2,_,_⟩:=two_facts r2.2)
  | (go_at_call 179; refine (M3 _ (by first | exact he.below hB | exact he.below hB.drew | exact he.below (below_drewN hB _)) (by exact r4)).mono ?_;rintro e W ⟨rfl,h1⟩;(try replace h1:=below_of_drew h1);replace hB:=hB.trans (h1.mono hB.size);replace r1:=r1.below h1;replace r2:=r2.below h1;replace r3:=r3.below h1;replace r4:=Wk.below r4 h1;obtain ⟨a1,a2,_,_⟩:=two_facts r1.2;obtain ⟨b1,b2,_,_⟩:=two_facts r2.2))
 go_wp2_with fail
 refine (M4 _ (he.below hB) r4).mono ?_
 rintro e W ⟨rfl,h1⟩
 replace hB:=hB.trans (h1.mono hB.size)
 replace r1:=r1.below h1
 replace r2:=r2.below h1
 replace r3:=r3.below h1
 replace r4:=Wk.below r4 h1
 obtain ⟨a1,a2,_,_⟩:=two_facts r1.2
 obtain ⟨b1,b2,_,_⟩:=two_facts r2.2
 clear h1
 go_wp2_with fail
 refine (M5 _ (he.below hB) r4).mono ?_
 rintro e W ⟨rfl,h1⟩
 replace hB:=hB.trans (h1.mono hB.size)
 replace r1:=r1.below h1
 replace r2:=r2.below h1
 replace r3:=r3.below h1
 replace r4:=Wk.below r4 h1
 obtain ⟨a1,a2,_,_⟩:=two_facts r1.2
 obtain ⟨b1,b2,_,_⟩:=two_facts r2.2
 clear h1
 unfold Q
 generalize hq:Rat.divInt n d=q at *
 obtain ⟨x1,x2,x3,x4⟩:=two_facts r3.2
 have hst:=store_two r3.2 (.string (S q.num)) (.string (S (q.den:Int)))
 obtain ⟨g1,g2,_,_⟩:=two_facts hst
 have hBs:=(hB.setCell (p:=⟨w.heap.size+1+1,0,none⟩) (by simp;omega) (.string (S q.num))).setCell (p:=⟨w.heap.size+1+1,1,none⟩) (by simp;omega) (.string (S (q.den:Int)))
 go_wp2
 refine bodyPost_ret (v := .tuple #[.agg #[.string (S q.num),.string (S (q.den:Int))],.int .i64 0]) ?res rfl ⟨by rw [hq];rfl,hBs⟩
 case res=>simp [results,Tryz.f110, go_sem,g1,g2]
theorem three_rows (w:World) (o1 o2 o3:Obj):Row (((w.alloc o1).alloc o2).alloc o3) (w.heap.size+1+1) o3∧Below w.heap.size w (((w.alloc o1).alloc o2).alloc o3):=by
 have e1:(w.alloc o1).heap.size=w.heap.size+1:=by simp
 have e2:((w.alloc o1).alloc o2).heap.size=w.heap.size+1+1:=by simp
 refine ⟨?_,?_⟩
 ·rw [← e2];exact row_new ((w.alloc o1).alloc o2) o3
 ·exact (((Below.refl w.heap.size w).alloc (Nat.le_refl _) o1).alloc (by omega) o2).alloc (by omega) o3
/-- A sum, a difference is not too large. -/
structure AF (a b:Rat):Prop where
 da:QDig 200 a
 db:QDig 200 b
 x:Fits (a.num * (b.den:Int))
 y:Fits (b.num * (a.den:Int))
 n:Fits (a.num * (b.den:Int)+b.num * (a.den:Int))
 d:Fits ((a.den:Int) * (b.den:Int))
structure SF (a b:Rat):Prop where
 da:QDig 200 a
 db:QDig 200 b
 x:Fits (a.num * (b.den:Int))
 y:Fits (b.num * (a.den:Int))
 n:Fits (a.num * (b.den:Int) - b.num * (a.den:Int))
 d:Fits ((a.den:Int) * (b.den:Int))
theorem AF.of {j k:Nat} {a b:Rat} (ha:QDig j a) (hb:QDig k b) (hjk:j+k+1≤200):AF a b:=by
 have dx:=ha.1.mul hb.2
 have dy:Dig (j+k) (b.num * (a.den:Int)):=by rw [Nat.add_comm];exact hb.1.mul ha.2
 exact ⟨ha.mono (by omega),hb.mono (by omega),dx.fits (by omega),dy.fits (by omega),(dx.add dy).fits (by omega),(ha.2.mul hb.2).fits (by omega)⟩
theorem SF.of {j k:Nat} {a b:Rat} (ha:QDig j a) (hb:QDig k b) (hjk:j+k+1≤200):SF a b:=by
 have dx:=ha.1.mul hb.2
 have dy:Dig (j+k) (b.num * (a.den:Int)):=by rw [Nat.add_comm];exact hb.1.mul ha.2
 exact ⟨ha.mono (by omega),hb.mono (by omega),dx.fits (by omega),dy.fits (by omega),(dx.sub dy).fits (by omega),(ha.2.mul hb.2).fits (by omega)⟩
theorem qaddF {a b:Rat} (h:AF a b) (w:World) (he:Env w) :
  Calls Tryz.prog 37 #[Q a,Q b] w (QOk (a+b) w):=by
 have eg:∀ args w,(callFunc 111 args).run Tryz.prog w = .ok (.enter 111 args) w:=enters_of Tryz.func111 (by kernel_rfl) rfl
 have d0:(a.den:Int) * (b.den:Int)≠0:=by have:=den_pos a;have:=den_pos b;exact Int.ne_of_gt (Int.mul_pos (by omega) (by omega))
 have H:=wsum 111 eg (a:=a) (b:=b) (q:=a+b) h.da h.db (Lib.hid rfl) (Lib.hid rfl) (Lib.hid rfl) h.x h.y h.n h.d d0 (add_parts a b)
  (fun W hW=>addS (is_S _) (is_S _) (Lib.hid rfl) h.x h.y h.n W hW)
 obtain ⟨r3,hB⟩:=three_rows w (.cells #[.string (S a.num),.string (S (a.den:Int))] 23) (.cells #[.string (S b.num),.string (S (b.den:Int))] 23) (.cells #[.string ⟨#[]⟩,.string ⟨#[]⟩] 23)
 have H1:=H _ (he.below hB)
 clear H d0 h
 unfold QOk at *
 show Calls Tryz.prog 37 #[.agg #[.string (S a.num),.string (S (a.den:Int))],.agg #[.string (S b.num),.string (S (b.den:Int))]] w _
 generalize hq:a+b=q at *
 go_enter Tryz.func37, Tryz.ntmps37
 go_wp2_with fail
 generalize ((w.alloc (.cells #[.string (S a.num),.string (S (a.den:Int))] 23)).alloc (.cells #[.string (S b.num),.string (S (b.den:Int))] 23)).alloc (.cells #[.string ⟨#[]⟩,.string ⟨#[]⟩] 23)=W0 at *
 refine H1.mono ?_
 rintro e W ⟨rfl,h1⟩
 replace hB:=hB.trans (h1.mono hB.size)
 replace r3:=r3.below h1
 unfold Q
 obtain ⟨x1,x2,x3,x4⟩:=two_facts r3.2
 have hst:=store_two r3.2 (.string (S q.num)) (.string (S (q.den:Int)))
 obtain ⟨g1,g2,_,_⟩:=two_facts hst
 have hBs:=(hB.setCell (p:=⟨w.heap.size+1+1,0,none⟩) (by simp;omega) (.string (S q.num))).setCell (p:=⟨w.heap.size+1+1,1,none⟩) (by simp;omega) (.string (S (q.den:Int)))
 go_wp2
 refine bodyPost_ret (v := .tuple #[.agg #[.string (S q.num),.string (S (q.den:Int))],.int .i64 0]) ?res rfl ⟨rfl,hBs⟩
 case res=>simp [results,Tryz.f37, go_sem,g1,g2]
theorem qsubF {a b:Rat} (h:SF a b) (w:World) (he:Env w) :
  Calls Tryz.prog 39 #[Q a,Q b] w (QOk (a - b) w):=by
 have eg:∀ args w,(callFunc 112 args).run Tryz.prog w = .ok (.enter 112 args) w:=enters_of Tryz.func112 (by kernel_rfl) rfl
 have d0:(a.den:Int) * (b.den:Int)≠0:=by have:=den_pos a;have:=den_pos b;exact Int.ne_of_gt (Int.mul_pos (by omega) (by omega))
 have H:=wsum 112 eg (a:=a) (b:=b) (q:=a - b) h.da h.db (Lib.hid rfl) (Lib.hid rfl) (Lib.hid rfl) h.x h.y h.n h.d d0 (sub_parts a b)
  (fun W hW=>subS (is_S _) (is_S _) (Lib.hid rfl) h.x h.y h.n W hW)
 obtain ⟨r3,hB⟩:=three_rows w (.cells #[.string (S a.num),.string (S (a.den:Int))] 23) (.cells #[.string (S b.num),.string (S (b.den:Int))] 23) (.cells #[.string ⟨#[]⟩,.string ⟨#[]⟩] 23)
 have H1:=H _ (he.below hB)
 clear H d0 h
 unfold QOk at *
 show Calls Tryz.prog 39 #[.agg #[.string (S a.num),.string (S (a.den:Int))],.agg #[.string (S b.num),.string (S (b.den:Int))]] w _
 generalize hq:a - b=q at *
 go_enter Tryz.func39, Tryz.ntmps39
 go_wp2_with fail
 generalize ((w.alloc (.cells #[.string (S a.num),.string (S (a.den:Int))] 23)).alloc (.cells #[.string (S b.num),.string (S (b.den:Int))] 23)).alloc (.cells #[.string ⟨#[]⟩,.string ⟨#[]⟩] 23)=W0 at *
 refine H1.mono ?_
 rintro e W ⟨rfl,h1⟩
 replace hB:=hB.trans (h1.mono hB.size)
 replace r3:=r3.below h1
 unfold Q
 obtain ⟨x1,x2,x3,x4⟩:=two_facts r3.2
 have hst:=store_two r3.2 (.string (S q.num)) (.string (S (q.den:Int)))
 obtain ⟨g1,g2,_,_⟩:=two_facts hst
 have hBs:=(hB.setCell (p:=⟨w.heap.size+1+1,0,none⟩) (by simp;omega) (.string (S q.num))).setCell (p:=⟨w.heap.size+1+1,1,none⟩) (by simp;omega) (.string (S (q.den:Int)))
 go_wp2
 refine bodyPost_ret (v := .tuple #[.agg #[.string (S q.num),.string (S (q.den:Int))],.int .i64 0]) ?res rfl ⟨rfl,hBs⟩
 case res=>simp [results,Tryz.f39, go_sem,g1,g2]
end Go.Proofs.YtnokpldomlmamaaGreatDoor
namespace Go.Proofs.YtnokpldomlmamaaGreatDoor
open Go Go.RowKit Go.Lib Go.Shelf
/-- A call at a world of which only some facts are kept. -/
theorem world_cut {P:Program} {F:FuncId} {args:Array Value} {w:World} {R:Ending→World→Prop} (p:World→Prop) (h0:p w) (h:∀ W,p W→Calls P F args W R):Calls P F args w R:=h w h0
theorem row_new' {w:World} {b:Nat} {o:Obj} (h:b=w.heap.size):Row (w.alloc o) b o:=h ▸ row_new w o
theorem Row.drew {W:World} {b:Nat} {o:Obj} (h:Row W b o):Row W.drew b o:=h
theorem Row.drewN {W:World} {b:Nat} {o:Obj} (h:Row W b o) (k:Nat):Row (W.drewN k) b o:=h
theorem Row.set_other {W:World} {b c i:Nat} {o:Obj} (h:Row W b o) (v:Value) (hne:b≠c):Row (W.setCell ⟨c,i,none⟩ v) b o :=
 ⟨by simpa using h.1,by rw [Below.heap_setCell _ _ _ _ hne];exact h.2⟩
theorem Row.set_same {W:World} {b i:Nat} {vs vs':Array Value} {v:Value} {t:TypeId} (h:Row W b (.cells vs t)) (e:vs.setIfInBounds i v=vs'):Row (W.setCell ⟨b,i,none⟩ v) b (.cells vs' t) :=
 ⟨by simpa using h.1,by simp [World.setCell,Array.getElem?_modify,h.2,e]⟩
theorem Row.set2 {W:World} {b:Nat} {v0 v1 u0 u1:Value} {t:TypeId} (h:Row W b (.cells #[v0,v1] t)):Row ((W.setCell ⟨b,0,none⟩ u0).setCell ⟨b,1,none⟩ u1) b (.cells #[u0,u1] t):=(h.set_same rfl).set_same rfl
theorem Row.set4 {W:World} {b:Nat} {v0 v1 v2 v3 u0 u1 u2 u3:Value} {t:TypeId} (h:Row W b (.cells #[v0,v1,v2,v3] t)) :
  Row ((((W.setCell ⟨b,0,none⟩ u0).setCell ⟨b,1,none⟩ u1).setCell ⟨b,2,none⟩ u2).setCell ⟨b,3,none⟩ u3) b (.cells #[u0,u1,u2,u3] t):=(((h.set_same rfl).set_same rfl).set_same rfl).set_same rfl
theorem Row.set1 {W:World} {b:Nat} {v0 u0:Value} {t:TypeId} (h:Row W b (.cells #[v0] t)):Row (W.setCell ⟨b,0,none⟩ u0) b (.cells #[u0] t):=h.set_same rfl
theorem Row.set4a {W:World} {b:Nat} {v0 v1 v2 v3 u0 u1:Value} {t:TypeId} (h:Row W b (.cells #[v0,v1,v2,v3] t)):Row ((W.setCell ⟨b,0,none⟩ u0).setCell ⟨b,1,none⟩ u1) b (.cells #[u0,u1,v2,v3] t):=(h.set_same rfl).set_same rfl
theorem Row.set4b {W:World} {b:Nat} {v0 v1 v2 v3 u2 u3:Value} {t:TypeId} (h:Row W b (.cells #[v0,v1,v2,v3] t)):Row ((W.setCell ⟨b,2,none⟩ u2).setCell ⟨b,3,none⟩ u3) b (.cells #[v0,v1,u2,u3] t):=(h.set_same rfl).set_same rfl
theorem post_cut {P:Program} {fn:Func} {R:Ending→World→Prop} {ex:Exit} {a:Act} {w:World} (p:World→Prop) (h0:p w) (h:∀ W,p W→bodyPost P fn R ex a W):bodyPost P fn R ex a w:=h w h0
theorem wp_cut {P:Program} {c:Code} {Q:Exit→Act→World→Prop} {a:Act} {w:World} (p:World→Prop) (h0:p w) (h:∀ W,p W→c.wp P Q a W):c.wp P Q a w:=h w h0
theorem Row.cells1 {W:World} {b:Nat} {v0:Value} {t:TypeId} (h:Row W b (.cells #[v0] t)):b<W.heap.size∧W.cell? ⟨b,0,none⟩=some v0∧W.frozen? ⟨b,0,none⟩=false:=⟨h.1,one_facts h.2⟩
theorem Row.cells2 {W:World} {b:Nat} {v0 v1:Value} {t:TypeId} (h:Row W b (.cells #[v0,v1] t)) :
  b<W.heap.size∧W.cell? ⟨b,0,none⟩=some v0∧W.cell? ⟨b,1,none⟩=some v1∧W.frozen? ⟨b,0,none⟩=false∧W.frozen? ⟨b,1,none⟩=false:=⟨h.1,two_facts h.2⟩
theorem Row.cells4 {W:World} {b:Nat} {v0 v1 v2 v3:Value} {t:TypeId} (h:Row W b (.cells #[v0,v1,v2,v3] t)) :
  b<W.heap.size∧W.cell? ⟨b,0,none⟩=some v0∧W.cell? ⟨b,1,none⟩=some v1∧W.cell? ⟨b,2,none⟩=some v2∧W.cell? ⟨b,3,none⟩=some v3
   ∧ W.frozen? ⟨b,0,none⟩=false∧W.frozen? ⟨b,1,none⟩=false∧W.frozen? ⟨b,2,none⟩=false∧W.frozen? ⟨b,3,none⟩=false :=
 ⟨h.1,cell_of_row _ _ 0 _ _ _ h.2,cell_of_row _ _ 1 _ _ _ h.2,cell_of_row _ _ 2 _ _ _ h.2,cell_of_row _ _ 3 _ _ _ h.2,frozen_of_row _ _ 0 _ _ h.2,frozen_of_row _ _ 1 _ _ h.2,frozen_of_row _ _ 2 _ _ h.2,frozen_of_row _ _ 3 _ _ h.2⟩
end Go.Proofs.YtnokpldomlmamaaGreatDoor
namespace Go.Proofs.YtnokpldomlmamaaGreatDoor
open Go Go.RowKit Go.Lib
theorem C1_hB {P:Prop} (h:P:=by repeat (first | (with_reducible exact hB) | (with_reducible exact Below.refl _ _) | (with_reducible refine Below.drew ?_) | (with_reducible refine below_drewN ?_ _) | (with_reducible refine Below.alloc ?_ (by first | omega | (simp;done) | (simp;omega)) _) | (with_reducible refine Below.setCell ?_ (by first | omega | (simp;done) | (simp;omega)) _))):P:=h
theorem C2 {P:Prop} (h:P:=by repeat (first | (with_reducible exact row_new' (by first | omega | (simp;done) | (simp;omega))) | (with_reducible refine Row.drew ?_) | (with_reducible refine Row.drewN ?_ _) | (with_reducible refine Row.alloc ?_ _) | (with_reducible apply Row.set4) | (with_reducible apply Row.set4a) | (with_reducible apply Row.set4b) | (with_reducible apply Row.set2) | (with_reducible apply Row.set1) | (with_reducible refine Row.set_other ?_ _ (by first | omega | (simp;done) | (simp;omega))))):P:=h
theorem C3_rs {P:Prop} (h:P:=by repeat (first | (with_reducible exact rs) | (with_reducible exact row_new' (by first | omega | (simp;done) | (simp;omega))) | (with_reducible refine Row.drew ?_) | (with_reducible refine Row.drewN ?_ _) | (with_reducible refine Row.alloc ?_ _) | (with_reducible apply Row.set4) | (with_reducible apply Row.set4a) | (with_reducible apply Row.set4b) | (with_reducible apply Row.set2) | (with_reducible apply Row.set1) | (with_reducible refine Row.set_other ?_ _ (by first | omega | (simp;done) | (simp;omega))))):P:=h
theorem C3_rp {P:Prop} (h:P:=by repeat (first | (with_reducible exact rp) | (with_reducible exact row_new' (by first | omega | (simp;done) | (simp;omega))) | (with_reducible refine Row.drew ?_) | (with_reducible refine Row.drewN ?_ _) | (with_reducible refine Row.alloc ?_ _) | (with_reducible apply Row.set4) | (with_reducible apply Row.set4a) | (with_reducible apply Row.set4b) | (with_reducible apply Row.set2) | (with_reducible apply Row.set1) | (with_reducible refine Row.set_other ?_ _ (by first | omega | (simp;done) | (simp;omega))))):P:=h
theorem C3_ra {P:Prop} (h:P:=by repeat (first | (with_reducible exact ra) | (with_reducible exact row_new' (by first | omega | (simp;done) | (simp;omega))) | (with_reducible refine Row.drew ?_) | (with_reducible refine Row.drewN ?_ _) | (with_reducible refine Row.alloc ?_ _) | (with_reducible apply Row.set4) | (with_reducible apply Row.set4a) | (with_reducible apply Row.set4b) | (with_reducible apply Row.set2) | (with_reducible apply Row.set1) | (with_reducible refine Row.set_other ?_ _ (by first | omega | (simp;done) | (simp;omega))))):P:=h
theorem C3_ro {P:Prop} (h:P:=by repeat (first | (with_reducible exact ro) | (with_reducible exact row_new' (by first | omega | (simp;done) | (simp;omega))) | (with_reducible refine Row.drew ?_) | (with_reducible refine Row.drewN ?_ _) | (with_reducible refine Row.alloc ?_ _) | (with_reducible apply Row.set4) | (with_reducible apply Row.set4a) | (with_reducible apply Row.set4b) | (with_reducible apply Row.set2) | (with_reducible apply Row.set1) | (with_reducible refine Row.set_other ?_ _ (by first | omega | (simp;done) | (simp;omega))))):P:=h
theorem C3_rb {P:Prop} (h:P:=by repeat (first | (with_reducible exact rb) | (with_reducible exact row_new' (by first | omega | (simp;done) | (simp;omega))) | (with_reducible refine Row.drew ?_) | (with_reducible refine Row.drewN ?_ _) | (with_reducible refine Row.alloc ?_ _) | (with_reducible apply Row.set4) | (with_reducible apply Row.set4a) | (with_reducible apply Row.set4b) | (with_reducible apply Row.set2) | (with_reducible apply Row.set1) | (with_reducible refine Row.set_other ?_ _ (by first | omega | (simp;done) | (simp;omega))))):P:=h
theorem C3_rg {P:Prop} (h:P:=by repeat (first | (with_reducible exact rg) | (with_reducible exact row_new' (by first | omega | (simp;done) | (simp;omega))) | (with_reducible refine Row.drew ?_) | (with_reducible refine Row.drewN ?_ _) | (with_reducible refine Row.alloc ?_ _) | (with_reducible apply Row.set4) | (with_reducible apply Row.set4a) | (with_reducible apply Row.set4b) | (with_reducible apply Row.set2) | (with_reducible apply Row.set1) | (with_reducible refine Row.set_other ?_ _ (by first | omega | (simp;done) | (simp;omega))))):P:=h
theorem C3_rx {P:Prop} (h:P:=by repeat (first | (with_reducible exact rx) | (with_reducible exact row_new' (by first | omega | (simp;done) | (simp;omega))) | (with_reducible refine Row.drew ?_) | (with_reducible refine Row.drewN ?_ _) | (with_reducible refine Row.alloc ?_ _) | (with_reducible apply Row.set4) | (with_reducible apply Row.set4a) | (with_reducible apply Row.set4b) | (with_reducible apply Row.set2) | (with_reducible apply Row.set1) | (with_reducible refine Row.set_other ?_ _ (by first | omega | (simp;done) | (simp;omega))))):P:=h
theorem C4 {P:Prop} (h:P:=by repeat (first | (with_reducible exact row_new' (by first | omega | (simp;done) | (simp;omega))) | (with_reducible refine Row.drew ?_) | (with_reducible refine Row.alloc ?_ _))):P:=h
theorem C5_hB {P:Prop} (h:P:=by repeat (first | (with_reducible exact hB) | (with_reducible refine Below.drew ?_) | (with_reducible refine Below.alloc ?_ (by first | omega | (simp;done) | (simp;omega)) _) | (with_reducible refine Below.setCell ?_ (by first | omega | (simp;done) | (simp;omega)) _))):P:=h
theorem C6_rq {P:Prop} (h:P:=by repeat (first | (with_reducible exact rq) | (with_reducible exact row_new' (by first | omega | (simp;done) | (simp;omega))) | (with_reducible refine Row.drew ?_) | (with_reducible refine Row.alloc ?_ _) | (with_reducible apply Row.set4) | (with_reducible apply Row.set4a) | (with_reducible apply Row.set4b) | (with_reducible apply Row.set2) | (with_reducible apply Row.set1) | (with_reducible refine Row.set_other ?_ _ (by first | omega | (simp;done) | (simp;omega))))):P:=h
theorem C6_rp {P:Prop} (h:P:=by repeat (first | (with_reducible exact rp) | (with_reducible exact row_new' (by first | omega | (simp;done) | (simp;omega))) | (with_reducible refine Row.drew ?_) | (with_reducible refine Row.alloc ?_ _) | (with_reducible apply Row.set4) | (with_reducible apply Row.set4a) | (with_reducible apply Row.set4b) | (with_reducible apply Row.set2) | (with_reducible apply Row.set1) | (with_reducible refine Row.set_other ?_ _ (by first | omega | (simp;done) | (simp;omega))))):P:=h
end Go.Proofs.YtnokpldomlmamaaGreatDoor
namespace Go.Proofs.YtnokpldomlmamaaGreatDoor
open Go Go.RowKit Go.Lib Go.Shelf
/-- An interval's value in the program. -/
def I (a:Iv):Value := .agg #[.string (S a.lo.num),.string (S (a.lo.den:Int)),.string (S a.hi.num),.string (S (a.hi.den:Int))]
/-- What the listed variables hold: as Env, and errFails. -/
structure EnvE (a:Addr) (w:World):Prop where
 env:Env w
 fails:w.cell? ⟨1, 0,none⟩=some (.iface 316 (.pointer (some a)))
theorem EnvE.below {a:Addr} {w w':World} (h:EnvE a w) (hb:Below w.heap.size w w'):EnvE a w':=⟨h.env.below hb,(hb.cell (World.block_lt_of_cell? _ _ h.fails)).trans h.fails⟩
theorem echeck_true (w:World):Calls Tryz.prog 209 #[.bool true] w (UnitOk w):=by
 go_enter Tryz.func209, Tryz.ntmps209
 go_wp2
 go_end0
 exact ⟨rfl,Below.refl _ _⟩
theorem assert_nil (w:World):(Instr.typeAssert .nilIface 20 169 true).run Tryz.prog w = .ok (.tuple #[.nilIface,.bool false]) w:=by kernel_rfl
/-! compute[yardstick/api.Interval] -/
def ivIs (Pr:Iv→Prop) (w:World) (e:Ending) (w':World):Prop:=∃ a,Pr a∧e = .returned (I a)∧Below w.heap.size w w'
def ivOk (Pr:Iv→Prop) (w:World) (e:Ending) (w':World):Prop:=∃ a,Pr a∧e = .returned (.tuple #[I a,.int .i64 0])∧Below w.heap.size w w'
theorem ividle (bp bq:Nat) (w:World) :
  CallsD Tryz.prog 241 #[.pointer (some ⟨bp,0,none⟩),.pointer (some ⟨bq,0,none⟩)] .returning w fun e u' w'=>e = .returned (.tuple #[])∧u' = .returning∧w'=w:=by
 have hta:=assert_nil
 refine callsD_of_wpS Tryz.func241 rfl fun c₀ cs hu => ?_
 have e:(#[.pointer (some ⟨bp,0,none⟩),.pointer (some ⟨bq,0,none⟩)] ++ Array.replicate (Tryz.f241.ntmps - (#[.pointer (some ⟨bp,0,none⟩),.pointer (some ⟨bq,0,none⟩)]:Array Value).size) undef:Array Value)=#[.pointer (some ⟨bp,0,none⟩),.pointer (some ⟨bq,0,none⟩),undef,undef,undef,undef,undef,undef,undef,undef,undef,undef,undef,undef,undef,undef,undef]:=by kernel_rfl
 rw [e]
 apply wpS_seq
 apply wpS_region
 simp [wpOpsS,go_sem,recoverD,hu,Exit.thenS,hta]
 refine wpS_of_wp ?_
 go_hide hQ
 go_wp2
 subst hQ
 cases c₀
 simp_all [bodyPostS,results,Tryz.results241]
/-- compute, where the function that it calls hands back a result. -/
theorem ivcompute_ok (F:FuncId) (caps:Array Value) (s n:Nat) (Pr:Iv→Prop) (w:World) (eg:∀ args w,(callFunc F args).run Tryz.prog w = .ok (.enter F args) w)
  (hv:∀ W,Below w.heap.size w W→Calls Tryz.prog 242 #[.slice (some ⟨s,0,none⟩) n n,.func (.func 243) #[] #[]] W (BoolOk false W))
  (h:∀ W,Below w.heap.size w W→Calls Tryz.prog F caps W (ivIs Pr W)) :
  Calls Tryz.prog 206 #[.func (.func F) #[] caps,.slice (some ⟨s,0,none⟩) n n] w (ivOk Pr w):=by
 have hmf:∀ (fn:Fn) (first cap:Array Value) (w:World),(Instr.makeFunc fn first cap).run Tryz.prog w = .ok (.func fn first cap) w:=fun _ _ _ _=>rfl
 have hB:Below w.heap.size w w:=Below.refl _ _
 go_enter_defers Tryz.func206, Tryz.ntmps206
 go_wp2_with fail
 refine world_cut (fun X=>Below w.heap.size w X∧Row X w.heap.size (.cells #[.string ⟨#[]⟩,.string ⟨#[]⟩,.string ⟨#[]⟩,.string ⟨#[]⟩] 30)∧Row X (w.heap.size+1) (.cells #[.int .i64 0] 40)) ⟨C5_hB,C4,C4⟩ ?_
 clear hB
 rintro W1 ⟨hB,rp,rq⟩
 refine (hv _ hB).mono ?_
 rintro e W2 ⟨rfl,h1⟩
 replace hB:=hB.trans (h1.mono hB.size)
 replace rp:=Row.below rp h1
 replace rq:=Row.below rq h1
 clear h1
 go_wp2_with fail
 refine (echeck_true _).mono ?_
 rintro e W3 ⟨rfl,h1⟩
 replace hB:=hB.trans (h1.mono hB.size)
 replace rp:=Row.below rp h1
 replace rq:=Row.below rq h1
 clear h1
 have h':=h _ hB
 clear h hv
 go_wp2_with (go_at_fn F;refine h'.mono ?_;rintro e W4 ⟨a,pa,rfl,h1⟩;replace hB:=hB.trans (h1.mono hB.size);replace rp:=Row.below rp h1;replace rq:=Row.below rq h1;have sp:=Row.cells4 rp;obtain ⟨sq,cq,fq⟩:=Row.cells1 rq;unfold I)
 refine leaves_cons (f := 241) (args:=#[.pointer (some ⟨w.heap.size,0,none⟩),.pointer (some ⟨w.heap.size+1,0,none⟩)]) (by simp) (by simp [go_sem]) ?_
 refine (ividle _ _ _).mono ?_
 rintro e u' w'' ⟨rfl,rfl,hw⟩
 have sB:=hB.size
 obtain ⟨hB',rp',rq'⟩:Below w.heap.size w w''∧Row w'' w.heap.size (.cells #[.string (S a.lo.num),.string (S (a.lo.den:Int)),.string (S a.hi.num),.string (S (a.hi.den:Int))] 30)∧Row w'' (w.heap.size+1) (.cells #[.int .i64 0] 40):=by
  rw [hw]
  exact ⟨C5_hB,C6_rp,C6_rq⟩
 clear hw
 obtain ⟨tp,dp0,dp1,dp2,dp3,_gp0,_gp1,_gp2,_gp3⟩:=Row.cells4 rp'
 obtain ⟨tq,dq,_gq⟩:=Row.cells1 rq'
 simp only [Leaves,settle]
 exact ⟨.tuple #[.agg #[.string (S a.lo.num),.string (S (a.lo.den:Int)),.string (S a.hi.num),.string (S (a.hi.den:Int))],.int .i64 0],by simp [results,Tryz.results206, go_sem,dp0,dp1,dp2,dp3,dq],a,pa,rfl,hB'⟩
/-! compute[yardstick/api.Ratio] -/
end Go.Proofs.YtnokpldomlmamaaGreatDoor
