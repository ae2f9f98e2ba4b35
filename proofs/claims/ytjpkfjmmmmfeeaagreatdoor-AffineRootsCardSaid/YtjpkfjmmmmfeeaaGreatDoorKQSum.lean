/-
 Package rational, over fractions whose parts are short: the exported functions. Package rational, over fractions whose parts are short: sums and differences.
-/
import Derived.Deep.RegionHeld3
import Derived.Test.YtjpkfjmmmmfeeaaGreatDoorKQCheck1
set_option maxRecDepth 100000
set_option maxHeartbeats 1000000
namespace Go.Proofs.YtjpkfjmmmmfeeaaGreatDoor
open Go Go.RowKit Go.Lib Go.Shelf
theorem wk_new (w:World):Wk (w.alloc (.cells #[.bool false] 87)) w.heap.size:=⟨by simp,heap_alloc_new _ _⟩
/-- Five new variables. -/
theorem five_new (w:World) (o1 o2 o3 o4 o5:Obj):Row (((((w.alloc o1).alloc o2).alloc o3).alloc o4).alloc o5) w.heap.size o1∧Row (((((w.alloc o1).alloc o2).alloc o3).alloc o4).alloc o5) (w.heap.size+1) o2
  ∧ Row (((((w.alloc o1).alloc o2).alloc o3).alloc o4).alloc o5) (w.heap.size+1+1) o3∧Row (((((w.alloc o1).alloc o2).alloc o3).alloc o4).alloc o5) (w.heap.size+1+1+1) o4
  ∧ Row (((((w.alloc o1).alloc o2).alloc o3).alloc o4).alloc o5) (w.heap.size+1+1+1+1) o5∧Below w.heap.size w (((((w.alloc o1).alloc o2).alloc o3).alloc o4).alloc o5):=by
 have e1:(w.alloc o1).heap.size=w.heap.size+1:=by simp
 have e2:((w.alloc o1).alloc o2).heap.size=w.heap.size+1+1:=by simp
 have e3:(((w.alloc o1).alloc o2).alloc o3).heap.size=w.heap.size+1+1+1:=by simp
 have e4:((((w.alloc o1).alloc o2).alloc o3).alloc o4).heap.size=w.heap.size+1+1+1+1:=by simp
 refine ⟨((((row_new w o1).alloc o2).alloc o3).alloc o4).alloc o5,?_,?_,?_,?_,?_⟩
 ·rw [← e1];exact (((row_new (w.alloc o1) o2).alloc o3).alloc o4).alloc o5
 ·rw [← e2];exact ((row_new ((w.alloc o1).alloc o2) o3).alloc o4).alloc o5
 ·rw [← e3];exact (row_new (((w.alloc o1).alloc o2).alloc o3) o4).alloc o5
 ·rw [← e4];exact row_new ((((w.alloc o1).alloc o2).alloc o3).alloc o4) o5
 ·have h:=Below.refl w.heap.size w
  exact ((((h.alloc (Nat.le_refl _) o1).alloc (by omega) o2).alloc (by omega) o3).alloc (by omega) o4).alloc (by omega) o5
theorem qmake {a b:ByteArray} {n d:Int} (ha:Is a n) (hb:Is b d) (hn:Fits n) (hd:Fits d) (hd0:d≠0) (w:World) (he:Env w) :
  Calls Tryz.prog 140 #[.string a,.string b] w (QOk (Rat.divInt n d) w):=by
 have V1:Hid (validB a.data.toList=true):=Lib.hid (ha.valid hn)
 have V2:Hid (validB b.data.toList=true):=Lib.hid (hb.valid hd)
 have hr:=row_new w (.cells #[.string ⟨#[]⟩,.string ⟨#[]⟩] 27)
 have hB:=(Below.refl w.heap.size w).alloc (Nat.le_refl _) (.cells #[.string ⟨#[]⟩,.string ⟨#[]⟩] 27)
 go_enter Tryz.func140, Tryz.ntmps140
 go_wp2_with fail
 refine (validS V1 (ha.str hn) _).mono ?_
 rintro e W ⟨rfl,h1⟩
 replace hB:=hB.trans (h1.mono hB.size)
 replace hr:=hr.below h1
 clear h1
 go_wp2_with fail
 refine (validS V2 (hb.str hd) _).mono ?_
 rintro e W ⟨rfl,h1⟩
 replace hB:=hB.trans (h1.mono hB.size)
 replace hr:=hr.below h1
 clear h1
 go_wp2_with fail
 refine (wreduced W.heap.size ha hb hn hd hd0 _ (he.below (hB.alloc hB.size _)) (wk_new _)).mono ?_
 rintro e W3 ⟨rfl,h1⟩
 replace hB:=(hB.alloc hB.size _).trans (h1.mono (hB.alloc hB.size _).size)
 replace hr:=(hr.alloc _).below h1
 unfold QOk Q
 generalize Rat.divInt n d=q at *
 obtain ⟨c5,c6,f5,f6⟩:=two_facts hr.2
 have hst:=store_two hr.2 (.string (S q.num)) (.string (S (q.den:Int)))
 obtain ⟨g1,g2,_,_⟩:=two_facts hst
 have hBs:=(hB.setCell (p:=⟨w.heap.size,0,none⟩) (by simp) (.string (S q.num))).setCell (p:=⟨w.heap.size,1,none⟩) (by simp) (.string (S (q.den:Int)))
 go_wp2
 refine bodyPost_ret (v := .tuple #[.agg #[.string (S q.num),.string (S (q.den:Int))],.int .i64 0]) ?res rfl ⟨rfl,hBs⟩
 case res=>simp [results,Tryz.f140, go_sem,g1,g2]
/-- A product, a quotient is not too large. -/
structure MF (a b:Rat):Prop where
 da:QDig 200 a
 db:QDig 200 b
 n:Fits (a.num * b.num)
 d:Fits ((a.den:Int) * (b.den:Int))
structure DF (a b:Rat):Prop where
 da:QDig 200 a
 db:QDig 200 b
 n:Fits (a.num * (b.den:Int))
 d:Fits ((a.den:Int) * b.num)
 b0:b≠0
theorem MF.of {j k:Nat} {a b:Rat} (ha:QDig j a) (hb:QDig k b) (hjk:j+k≤200):MF a b:=⟨ha.mono (by omega),hb.mono (by omega),(ha.1.mul hb.1).fits (by omega),(ha.2.mul hb.2).fits (by omega)⟩
theorem DF.of {j k:Nat} {a b:Rat} (ha:QDig j a) (hb:QDig k b) (hjk:j+k≤200) (hb0:b≠0):DF a b:=⟨ha.mono (by omega),hb.mono (by omega),(ha.1.mul hb.2).fits (by omega),(ha.2.mul hb.1).fits (by omega),hb0⟩
theorem qmulF {a b:Rat} (h:MF a b) (w:World) (he:Env w) :
  Calls Tryz.prog 18 #[Q a,Q b] w (QOk (a * b) w):=by
 have ha':=h.da
 have hb':=h.db
 obtain ⟨n,hn⟩:∃ n,n=a.num * b.num:=⟨_,rfl⟩
 obtain ⟨d,hd⟩:∃ d,d=(a.den:Int) * (b.den:Int):=⟨_,rfl⟩
 have E:Rat.divInt n d=a * b:=by rw [hn,hd];exact mul_parts a b
 have N1:=Lib.hid hn.symm
 have N2:=Lib.hid hd.symm
 have fn:Fits n:=by rw [hn];exact h.n
 have fd:Fits d:=by rw [hd];exact h.d
 have d0:d≠0:=by rw [hd];exact by have:=den_pos a;have:=den_pos b;exact Int.ne_of_gt (Int.mul_pos (by omega) (by omega))
 have ia:=is_S a.num
 have ib:=is_S b.num
 have ja:=is_S (a.den:Int)
 have jb:=is_S (b.den:Int)
 have fa:Fits a.num:=ha'.1
 have fb:Fits b.num:=hb'.1
 have ga:Fits (a.den:Int):=ha'.2
 have gb:Fits (b.den:Int):=hb'.2
 have jn:=is_S n
 have jd:=is_S d
 obtain ⟨r1,r2,r3,r4,r5,hB⟩:=five_new w (.cells #[.string (S a.num),.string (S (a.den:Int))] 27) (.cells #[.string (S b.num),.string (S (b.den:Int))] 27) (.cells #[.string ⟨#[]⟩,.string ⟨#[]⟩] 27) (.cells #[.bool false] 87) (.cells #[.string (S a.num),.string (S (a.den:Int)),.string (S b.num),.string (S (b.den:Int))] 27)
 rw [← E]
 unfold QOk
 show Calls Tryz.prog 18 #[.agg #[.string (S a.num),.string (S (a.den:Int))],.agg #[.string (S b.num),.string (S (b.den:Int))]] w _
 clear hn hd E h
 go_enter Tryz.func18, Tryz.ntmps18
 go_wp2_with fail
 generalize (((((w.alloc (.cells #[.string (S a.num),.string (S (a.den:Int))] 27)).alloc (.cells #[.string (S b.num),.string (S (b.den:Int))] 27)).alloc (.cells #[.string ⟨#[]⟩,.string ⟨#[]⟩] 27)).alloc (.cells #[.bool false] 87)).alloc (.cells #[.string (S a.num),.string (S (a.den:Int)),.string (S b.num),.string (S (b.den:Int))] 27))=W0 at *
 replace r4:Wk W0 _:=r4
 refine (wcheck2 _ _ a b ha' hb' _ (he.below hB) r4 r5).mono ?_
 rintro e W ⟨rfl,h1⟩
 replace hB:=hB.trans (h1.mono hB.size)
 replace r1:=r1.below h1
 replace r2:=r2.below h1
 replace r3:=r3.below h1
 replace r4:=Wk.below r4 h1
 obtain ⟨a1,a2,_,_⟩:=two_facts r1.2
 obtain ⟨b1,b2,_,_⟩:=two_facts r2.2
 clear h1
 clear r5
 go_wp2_with fail
 refine (wmul _ ia ib N1 fa fb fn _ (he.below hB) r4).mono ?_
 rintro e W ⟨rfl,h1⟩
 replace hB:=hB.trans (h1.mono hB.size)
 replace r1:=r1.below h1
 replace r2:=r2.below h1
 replace r3:=r3.below h1
 replace r4:=Wk.below r4 h1
 obtain ⟨a1,a2,_,_⟩:=two_facts r1.2
 obtain ⟨b1,b2,_,_⟩:=two_facts r2.2
 clear h1
 go_wp2_with fail
 refine (wmul _ ja jb N2 ga gb fd _ (he.below hB) r4).mono ?_
 rintro e W ⟨rfl,h1⟩
 replace hB:=hB.trans (h1.mono hB.size)
 replace r1:=r1.below h1
 replace r2:=r2.below h1
 replace r3:=r3.below h1
 replace r4:=Wk.below r4 h1
 obtain ⟨a1,a2,_,_⟩:=two_facts r1.2
 obtain ⟨b1,b2,_,_⟩:=two_facts r2.2
 clear h1
 go_wp2_with fail
 refine (wreduced _ jn jd fn fd d0 _ (he.below hB) r4).mono ?_
 rintro e W ⟨rfl,h1⟩
 replace hB:=hB.trans (h1.mono hB.size)
 replace r1:=r1.below h1
 replace r2:=r2.below h1
 replace r3:=r3.below h1
 replace r4:=Wk.below r4 h1
 obtain ⟨a1,a2,_,_⟩:=two_facts r1.2
 obtain ⟨b1,b2,_,_⟩:=two_facts r2.2
 clear h1
 unfold Q
 generalize hq:Rat.divInt n d=q at *
 obtain ⟨x1,x2,x3,x4⟩:=two_facts r3.2
 have hst:=store_two r3.2 (.string (S q.num)) (.string (S (q.den:Int)))
 obtain ⟨g1,g2,_,_⟩:=two_facts hst
 have hBs:=(hB.setCell (p:=⟨w.heap.size+1+1,0,none⟩) (by simp;omega) (.string (S q.num))).setCell (p:=⟨w.heap.size+1+1,1,none⟩) (by simp;omega) (.string (S (q.den:Int)))
 go_wp2
 refine bodyPost_ret (v := .tuple #[.agg #[.string (S q.num),.string (S (q.den:Int))],.int .i64 0]) ?res rfl ⟨by rw [hq];rfl,hBs⟩
 case res=>simp [results,Tryz.f18, go_sem,g1,g2]
theorem qdivF {a b:Rat} (h:DF a b) (w:World) (he:Env w) :
  Calls Tryz.prog 30 #[Q a,Q b] w (QOk (a / b) w):=by
 have ha':=h.da
 have hb':=h.db
 have hb0:=h.b0
 obtain ⟨n,hn⟩:∃ n,n=a.num * (b.den:Int):=⟨_,rfl⟩
 obtain ⟨d,hd⟩:∃ d,d=(a.den:Int) * b.num:=⟨_,rfl⟩
 have E:Rat.divInt n d=a / b:=by rw [hn,hd];exact div_parts a b
 have N1:=Lib.hid hn.symm
 have N2:=Lib.hid hd.symm
 have fn:Fits n:=by rw [hn];exact h.n
 have fd:Fits d:=by rw [hd];exact h.d
 have d0:d≠0:=by rw [hd];exact Int.mul_ne_zero (by have:=den_pos a;omega) (by intro e;exact hb0 (Rat.num_eq_zero.1 e))
 have ia:=is_S a.num
 have ib:=is_S b.num
 have ja:=is_S (a.den:Int)
 have jb:=is_S (b.den:Int)
 have fa:Fits a.num:=ha'.1
 have fb:Fits b.num:=hb'.1
 have ga:Fits (a.den:Int):=ha'.2
 have gb:Fits (b.den:Int):=hb'.2
 have jn:=is_S n
 have jd:=is_S d
 obtain ⟨r1,r2,r3,r4,r5,hB⟩:=five_new w (.cells #[.string (S a.num),.string (S (a.den:Int))] 27) (.cells #[.string (S b.num),.string (S (b.den:Int))] 27) (.cells #[.string ⟨#[]⟩,.string ⟨#[]⟩] 27) (.cells #[.bool false] 87) (.cells #[.string (S a.num),.string (S (a.den:Int)),.string (S b.num),.string (S (b.den:Int))] 27)
 rw [← E]
 unfold QOk
 show Calls Tryz.prog 30 #[.agg #[.string (S a.num),.string (S (a.den:Int))],.agg #[.string (S b.num),.string (S (b.den:Int))]] w _
 clear hn hd E h
 go_enter Tryz.func30, Tryz.ntmps30
 go_wp2_with fail
 generalize (((((w.alloc (.cells #[.string (S a.num),.string (S (a.den:Int))] 27)).alloc (.cells #[.string (S b.num),.string (S (b.den:Int))] 27)).alloc (.cells #[.string ⟨#[]⟩,.string ⟨#[]⟩] 27)).alloc (.cells #[.bool false] 87)).alloc (.cells #[.string (S a.num),.string (S (a.den:Int)),.string (S b.num),.string (S (b.den:Int))] 27))=W0 at *
 replace r4:Wk W0 _:=r4
 refine (wcheck2 _ _ a b ha' hb' _ (he.below hB) r4 r5).mono ?_
 rintro e W ⟨rfl,h1⟩
 replace hB:=hB.trans (h1.mono hB.size)
 replace r1:=r1.below h1
 replace r2:=r2.below h1
 replace r3:=r3.below h1
 replace r4:=Wk.below r4 h1
 obtain ⟨a1,a2,_,_⟩:=two_facts r1.2
 obtain ⟨b1,b2,_,_⟩:=two_facts r2.2
 clear h1
 clear r5
 go_wp2_with fail
 refine (wmul _ ia jb N1 fa gb fn _ (he.below hB) r4).mono ?_
 rintro e W ⟨rfl,h1⟩
 replace hB:=hB.trans (h1.mono hB.size)
 replace r1:=r1.below h1
 replace r2:=r2.below h1
 replace r3:=r3.below h1
 replace r4:=Wk.below r4 h1
 obtain ⟨a1,a2,_,_⟩:=two_facts r1.2
 obtain ⟨b1,b2,_,_⟩:=two_facts r2.2
 clear h1
 go_wp2_with fail
 refine (wmul _ ja ib N2 ga fb fd _ (he.below hB) r4).mono ?_
 rintro e W ⟨rfl,h1⟩
 replace hB:=hB.trans (h1.mono hB.size)
 replace r1:=r1.below h1
 replace r2:=r2.below h1
 replace r3:=r3.below h1
 replace r4:=Wk.below r4 h1
 obtain ⟨a1,a2,_,_⟩:=two_facts r1.2
 obtain ⟨b1,b2,_,_⟩:=two_facts r2.2
 clear h1
 go_wp2_with fail
 refine (wreduced _ jn jd fn fd d0 _ (he.below hB) r4).mono ?_
 rintro e W ⟨rfl,h1⟩
 replace hB:=hB.trans (h1.mono hB.size)
 replace r1:=r1.below h1
 replace r2:=r2.below h1
 replace r3:=r3.below h1
 replace r4:=Wk.below r4 h1
 obtain ⟨a1,a2,_,_⟩:=two_facts r1.2
 obtain ⟨b1,b2,_,_⟩:=two_facts r2.2
 clear h1
 unfold Q
 generalize hq:Rat.divInt n d=q at *
 obtain ⟨x1,x2,x3,x4⟩:=two_facts r3.2
 have hst:=store_two r3.2 (.string (S q.num)) (.string (S (q.den:Int)))
 obtain ⟨g1,g2,_,_⟩:=two_facts hst
 have hBs:=(hB.setCell (p:=⟨w.heap.size+1+1,0,none⟩) (by simp;omega) (.string (S q.num))).setCell (p:=⟨w.heap.size+1+1,1,none⟩) (by simp;omega) (.string (S (q.den:Int)))
 go_wp2
 refine bodyPost_ret (v := .tuple #[.agg #[.string (S q.num),.string (S (q.den:Int))],.int .i64 0]) ?res rfl ⟨by rw [hq];rfl,hBs⟩
 case res=>simp [results,Tryz.f30, go_sem,g1,g2]
end Go.Proofs.YtjpkfjmmmmfeeaaGreatDoor
namespace Go.Proofs.YtjpkfjmmmmfeeaaGreatDoor
open Go Go.RowKit Go.Lib Go.Shelf
theorem wsum (F:FuncId) (eg:∀ args w,(callFunc F args).run Tryz.prog w = .ok (.enter F args) w) {a b:Rat} {x y n d:Int} {q:Rat} (ha':QDig 200 a) (hb':QDig 200 b)
  (hx:Hid (a.num * (b.den:Int)=x)) (hy:Hid (b.num * (a.den:Int)=y)) (hd:Hid ((a.den:Int) * (b.den:Int)=d)) (fx:Fits x) (fy:Fits y) (fn:Fits n) (fd:Fits d) (d0:d≠0) (E:Rat.divInt n d=q)
  (H:∀ W,Env W→Calls Tryz.prog F #[.string (S x),.string (S y)] W (StrOk n W)) (w:World) (he:Env w) :
  Calls Tryz.prog 54 #[.func (.func F) #[] #[],Q a,Q b] w (QOk q w):=by
 have ia:=is_S a.num
 have ib:=is_S b.num
 have ja:=is_S (a.den:Int)
 have jb:=is_S (b.den:Int)
 have fa:Fits a.num:=ha'.1
 have fb:Fits b.num:=hb'.1
 have ga:Fits (a.den:Int):=ha'.2
 have gb:Fits (b.den:Int):=hb'.2
 have jn:=is_S n
 have jd:=is_S d
 obtain ⟨r1,r2,r3,r4,r5,hB⟩:=five_new w (.cells #[.string (S a.num),.string (S (a.den:Int))] 27) (.cells #[.string (S b.num),.string (S (b.den:Int))] 27) (.cells #[.string ⟨#[]⟩,.string ⟨#[]⟩] 27) (.cells #[.bool false] 87) (.cells #[.string (S a.num),.string (S (a.den:Int)),.string (S b.num),.string (S (b.den:Int))] 27)
 rw [← E]
 unfold QOk
 show Calls Tryz.prog 54 #[.func (.func F) #[] #[],.agg #[.string (S a.num),.string (S (a.den:Int))],.agg #[.string (S b.num),.string (S (b.den:Int))]] w _
 clear E
 go_enter Tryz.func54, Tryz.ntmps54
 go_wp2_with fail
 generalize (((((w.alloc (.cells #[.string (S a.num),.string (S (a.den:Int))] 27)).alloc (.cells #[.string (S b.num),.string (S (b.den:Int))] 27)).alloc (.cells #[.string ⟨#[]⟩,.string ⟨#[]⟩] 27)).alloc (.cells #[.bool false] 87)).alloc (.cells #[.string (S a.num),.string (S (a.den:Int)),.string (S b.num),.string (S (b.den:Int))] 27))=W0 at *
 replace r4:Wk W0 _:=r4
 refine (wcheck2 _ _ a b ha' hb' _ (he.below hB) r4 r5).mono ?_
 rintro e W ⟨rfl,h1⟩
 replace hB:=hB.trans (h1.mono hB.size)
 replace r1:=r1.below h1
 replace r2:=r2.below h1
 replace r3:=r3.below h1
 replace r4:=Wk.below r4 h1
 obtain ⟨a1,a2,_,_⟩:=two_facts r1.2
 obtain ⟨b1,b2,_,_⟩:=two_facts r2.2
 clear h1
 clear r5
 have ix:=is_S x
 have iy:=is_S y
 have M1:=fun W (h:Env W) (h':Wk W (w.heap.size+1+1+1))=>wmul _ ia jb hx fa gb fx W h h'
 have M2:=fun W (h:Env W) (h':Wk W (w.heap.size+1+1+1))=>wmul _ ib ja hy fb ga fy W h h'
 have M3:=fun W (h:Env W) (h':Wk W (w.heap.size+1+1+1))=>wdo _ F _ _ n W eg h' (H W h)
 have M4:=fun W (h:Env W) (h':Wk W (w.heap.size+1+1+1))=>wmul _ ja jb hd ga gb fd W h h'
 have M5:=fun W (h:Env W) (h':Wk W (w.heap.size+1+1+1))=>wreduced _ jn jd fn fd d0 W h h'
 unfold SOk at M1 M2 M3 M4
 clear H ix iy ia ib ja jb jn jd hx hy hd fa fb ga gb fx fy fn fd d0 ha' hb' eg
 generalize S a.num=na at *
 generalize S b.num=nb at *
 generalize S (a.den:Int)=da at *
 generalize S (b.den:Int)=db at *
 generalize S x=sx at *
 generalize S y=sy at *
 generalize S n=sn at *
 generalize S d=sd at *
 go_wp2_with fail
 go_region_held3 (fun X=>X.cell? ⟨w.heap.size,0,none⟩=some (.string na)∧X.cell? ⟨w.heap.size,1,none⟩=some (.string da)∧X.cell? ⟨w.heap.size+1,0,none⟩=some (.string nb)∧X.cell? ⟨w.heap.size+1,1,none⟩=some (.string db)) (first | exact ⟨a1,a2,b1,b2⟩) (first
  | (go_at_call 52; refine (M1 _ (by first | exact he.below hB | exact he.below hB.drew | exact he.below (below_drewN hB _)) (by exact r4)).mono ?_;rintro e W ⟨rfl,h1⟩;(try replace h1:=below_of_drew h1);replace hB:=hB.trans (h1.mono hB.size);replace r1:=r1.below h1;replace r2:=r2.below h1;replace r3:=r3.below h1;replace r4:=Wk.below r4 h1;obtain ⟨a1,a2,_,_⟩:=two_facts r1.2;obtain ⟨b1,b2,_,_⟩:=two_facts r2.2)
  | (go_at_call 52; refine (M2 _ (by first | exact he.below hB | exact he.below hB.drew | exact he.below (below_drewN hB _)) (by exact r4)).mono ?_;rintro e W ⟨rfl,h1⟩;(try replace h1:=below_of_drew h1);replace hB:=hB.trans (h1.mono hB.size);replace r1:=r1.below h1;replace r2:=r2.below h1;replace r3:=r3.below h1;replace r4:=Wk.below r4 h1;obtain ⟨a1,a2,_,_⟩:=two_facts r1.2;obtain ⟨b1,b2,_,_⟩:=two_facts r2.2)
  | (go_at_call 111; refine (M3 _ (by first | exact he.below hB | exact he.below hB.drew | exact he.below (below_drewN hB _)) (by exact r4)).mono ?_;rintro e W ⟨rfl,h1⟩;(try replace h1:=below_of_drew h1);replace hB:=hB.trans (h1.mono hB.size);replace r1:=r1.below h1;replace r2:=r2.below h1;replace r3:=r3.below h1;replace r4:=Wk.below r4 h1;obtain ⟨a1,a2,_,_⟩:=two_facts r1.2;obtain ⟨b1,b2,_,_⟩:=two_facts r2.2))
 go_wp2_with fail
 refine (M4 _ (he.below hB) r4).mono ?_
 rintro e W ⟨rfl,h1⟩
 replace hB:=hB.trans (h1.mono hB.size)
 replace r1:=r1.below h1
 replace r2:=r2.below h1
 replace r3:=r3.below h1
 replace r4:=Wk.below r4 h1
 obtain ⟨a1,a2,_,_⟩:=two_facts r1.2
 obtain ⟨b1,b2,_,_⟩:=two_facts r2.2
 clear h1
 go_wp2_with fail
 refine (M5 _ (he.below hB) r4).mono ?_
 rintro e W ⟨rfl,h1⟩
 replace hB:=hB.trans (h1.mono hB.size)
 replace r1:=r1.below h1
 replace r2:=r2.below h1
 replace r3:=r3.below h1
 replace r4:=Wk.below r4 h1
 obtain ⟨a1,a2,_,_⟩:=two_facts r1.2
 obtain ⟨b1,b2,_,_⟩:=two_facts r2.2
 clear h1
 unfold Q
 generalize hq:Rat.divInt n d=q at *
 obtain ⟨x1,x2,x3,x4⟩:=two_facts r3.2
 have hst:=store_two r3.2 (.string (S q.num)) (.string (S (q.den:Int)))
 obtain ⟨g1,g2,_,_⟩:=two_facts hst
 have hBs:=(hB.setCell (p:=⟨w.heap.size+1+1,0,none⟩) (by simp;omega) (.string (S q.num))).setCell (p:=⟨w.heap.size+1+1,1,none⟩) (by simp;omega) (.string (S (q.den:Int)))
 go_wp2
 refine bodyPost_ret (v := .tuple #[.agg #[.string (S q.num),.string (S (q.den:Int))],.int .i64 0]) ?res rfl ⟨by rw [hq];rfl,hBs⟩
 case res=>simp [results,Tryz.f54, go_sem,g1,g2]
theorem three_rows (w:World) (o1 o2 o3:Obj):Row (((w.alloc o1).alloc o2).alloc o3) (w.heap.size+1+1) o3∧Below w.heap.size w (((w.alloc o1).alloc o2).alloc o3):=by
 have e1:(w.alloc o1).heap.size=w.heap.size+1:=by simp
 have e2:((w.alloc o1).alloc o2).heap.size=w.heap.size+1+1:=by simp
 refine ⟨?_,?_⟩
 ·rw [← e2];exact row_new ((w.alloc o1).alloc o2) o3
 ·exact (((Below.refl w.heap.size w).alloc (Nat.le_refl _) o1).alloc (by omega) o2).alloc (by omega) o3
/-- A sum, a difference is not too large. -/
structure AF (a b:Rat):Prop where
 da:QDig 200 a
 db:QDig 200 b
 x:Fits (a.num * (b.den:Int))
 y:Fits (b.num * (a.den:Int))
 n:Fits (a.num * (b.den:Int)+b.num * (a.den:Int))
 d:Fits ((a.den:Int) * (b.den:Int))
structure SF (a b:Rat):Prop where
 da:QDig 200 a
 db:QDig 200 b
 x:Fits (a.num * (b.den:Int))
 y:Fits (b.num * (a.den:Int))
 n:Fits (a.num * (b.den:Int) - b.num * (a.den:Int))
 d:Fits ((a.den:Int) * (b.den:Int))
theorem AF.of {j k:Nat} {a b:Rat} (ha:QDig j a) (hb:QDig k b) (hjk:j+k+1≤200):AF a b:=by
 have dx:=ha.1.mul hb.2
 have dy:Dig (j+k) (b.num * (a.den:Int)):=by rw [Nat.add_comm];exact hb.1.mul ha.2
 exact ⟨ha.mono (by omega),hb.mono (by omega),dx.fits (by omega),dy.fits (by omega),(dx.add dy).fits (by omega),(ha.2.mul hb.2).fits (by omega)⟩
theorem SF.of {j k:Nat} {a b:Rat} (ha:QDig j a) (hb:QDig k b) (hjk:j+k+1≤200):SF a b:=by
 have dx:=ha.1.mul hb.2
 have dy:Dig (j+k) (b.num * (a.den:Int)):=by rw [Nat.add_comm];exact hb.1.mul ha.2
 exact ⟨ha.mono (by omega),hb.mono (by omega),dx.fits (by omega),dy.fits (by omega),(dx.sub dy).fits (by omega),(ha.2.mul hb.2).fits (by omega)⟩
theorem qaddF {a b:Rat} (h:AF a b) (w:World) (he:Env w) :
  Calls Tryz.prog 20 #[Q a,Q b] w (QOk (a+b) w):=by
 have eg:∀ args w,(callFunc 55 args).run Tryz.prog w = .ok (.enter 55 args) w:=enters_of Tryz.func55 (by kernel_rfl) rfl
 have d0:(a.den:Int) * (b.den:Int)≠0:=by have:=den_pos a;have:=den_pos b;exact Int.ne_of_gt (Int.mul_pos (by omega) (by omega))
 have H:=wsum 55 eg (a:=a) (b:=b) (q:=a+b) h.da h.db (Lib.hid rfl) (Lib.hid rfl) (Lib.hid rfl) h.x h.y h.n h.d d0 (add_parts a b)
  (fun W hW=>addS (is_S _) (is_S _) (Lib.hid rfl) h.x h.y h.n W hW)
 obtain ⟨r3,hB⟩:=three_rows w (.cells #[.string (S a.num),.string (S (a.den:Int))] 27) (.cells #[.string (S b.num),.string (S (b.den:Int))] 27) (.cells #[.string ⟨#[]⟩,.string ⟨#[]⟩] 27)
 have H1:=H _ (he.below hB)
 clear H d0 h
 unfold QOk at *
 show Calls Tryz.prog 20 #[.agg #[.string (S a.num),.string (S (a.den:Int))],.agg #[.string (S b.num),.string (S (b.den:Int))]] w _
 generalize hq:a+b=q at *
 go_enter Tryz.func20, Tryz.ntmps20
 go_wp2_with fail
 generalize ((w.alloc (.cells #[.string (S a.num),.string (S (a.den:Int))] 27)).alloc (.cells #[.string (S b.num),.string (S (b.den:Int))] 27)).alloc (.cells #[.string ⟨#[]⟩,.string ⟨#[]⟩] 27)=W0 at *
 refine H1.mono ?_
 rintro e W ⟨rfl,h1⟩
 replace hB:=hB.trans (h1.mono hB.size)
 replace r3:=r3.below h1
 unfold Q
 obtain ⟨x1,x2,x3,x4⟩:=two_facts r3.2
 have hst:=store_two r3.2 (.string (S q.num)) (.string (S (q.den:Int)))
 obtain ⟨g1,g2,_,_⟩:=two_facts hst
 have hBs:=(hB.setCell (p:=⟨w.heap.size+1+1,0,none⟩) (by simp;omega) (.string (S q.num))).setCell (p:=⟨w.heap.size+1+1,1,none⟩) (by simp;omega) (.string (S (q.den:Int)))
 go_wp2
 refine bodyPost_ret (v := .tuple #[.agg #[.string (S q.num),.string (S (q.den:Int))],.int .i64 0]) ?res rfl ⟨rfl,hBs⟩
 case res=>simp [results,Tryz.f20, go_sem,g1,g2]
theorem qsubF {a b:Rat} (h:SF a b) (w:World) (he:Env w) :
  Calls Tryz.prog 31 #[Q a,Q b] w (QOk (a - b) w):=by
 have eg:∀ args w,(callFunc 81 args).run Tryz.prog w = .ok (.enter 81 args) w:=enters_of Tryz.func81 (by kernel_rfl) rfl
 have d0:(a.den:Int) * (b.den:Int)≠0:=by have:=den_pos a;have:=den_pos b;exact Int.ne_of_gt (Int.mul_pos (by omega) (by omega))
 have H:=wsum 81 eg (a:=a) (b:=b) (q:=a - b) h.da h.db (Lib.hid rfl) (Lib.hid rfl) (Lib.hid rfl) h.x h.y h.n h.d d0 (sub_parts a b)
  (fun W hW=>subS (is_S _) (is_S _) (Lib.hid rfl) h.x h.y h.n W hW)
 obtain ⟨r3,hB⟩:=three_rows w (.cells #[.string (S a.num),.string (S (a.den:Int))] 27) (.cells #[.string (S b.num),.string (S (b.den:Int))] 27) (.cells #[.string ⟨#[]⟩,.string ⟨#[]⟩] 27)
 have H1:=H _ (he.below hB)
 clear H d0 h
 unfold QOk at *
 show Calls Tryz.prog 31 #[.agg #[.string (S a.num),.string (S (a.den:Int))],.agg #[.string (S b.num),.string (S (b.den:Int))]] w _
 generalize hq:a - b=q at *
 go_enter Tryz.func31, Tryz.ntmps31
 go_wp2_with fail
 generalize ((w.alloc (.cells #[.string (S a.num),.string (S (a.den:Int))] 27)).alloc (.cells #[.string (S b.num),.string (S (b.den:Int))] 27)).alloc (.cells #[.string ⟨#[]⟩,.string ⟨#[]⟩] 27)=W0 at *
 refine H1.mono ?_
 rintro e W ⟨rfl,h1⟩
 replace hB:=hB.trans (h1.mono hB.size)
 replace r3:=r3.below h1
 unfold Q
 obtain ⟨x1,x2,x3,x4⟩:=two_facts r3.2
 have hst:=store_two r3.2 (.string (S q.num)) (.string (S (q.den:Int)))
 obtain ⟨g1,g2,_,_⟩:=two_facts hst
 have hBs:=(hB.setCell (p:=⟨w.heap.size+1+1,0,none⟩) (by simp;omega) (.string (S q.num))).setCell (p:=⟨w.heap.size+1+1,1,none⟩) (by simp;omega) (.string (S (q.den:Int)))
 go_wp2
 refine bodyPost_ret (v := .tuple #[.agg #[.string (S q.num),.string (S (q.den:Int))],.int .i64 0]) ?res rfl ⟨rfl,hBs⟩
 case res=>simp [results,Tryz.f31, go_sem,g1,g2]
end Go.Proofs.YtjpkfjmmmmfeeaaGreatDoor
