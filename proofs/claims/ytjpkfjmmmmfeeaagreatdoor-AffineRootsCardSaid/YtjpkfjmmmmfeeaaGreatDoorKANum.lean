/-
 What the cells of a block of few cells hold: all at once. Package affine: must, and the arithmetic of numbers, where nothing is too large.
-/
import Derived.Test.YtjpkfjmmmmfeeaaGreatDoorKACompute
import Derived.Test.YtjpkfjmmmmfeeaaGreatDoorKEHull
import Derived.Test.YtjpkfjmmmmfeeaaGreatDoorKEValid
import Derived.Test.YtjpkfjmmmmfeeaaGreatDoorKQCmp
set_option linter.unusedVariables false
set_option linter.unusedSimpArgs false
set_option maxRecDepth 100000
set_option maxHeartbeats 16000000
namespace Go.Proofs.YtjpkfjmmmmfeeaaGreatDoor
open Go Go.RowKit Go.Lib Go.Shelf
theorem RF1 {X:World} {b:Nat} {u0:Value} {T:TypeId} (h:Row X b (.cells #[u0] T)):b<X.heap.size∧X.cell? ⟨b,0,none⟩=some u0:=⟨h.1,Row.cell_at h 0 rfl⟩
theorem RF2 {X:World} {b:Nat} {u0 u1:Value} {T:TypeId} (h:Row X b (.cells #[u0,u1] T)):b<X.heap.size∧X.cell? ⟨b,0,none⟩=some u0∧X.cell? ⟨b,1,none⟩=some u1:=⟨h.1,Row.cell_at h 0 rfl,Row.cell_at h 1 rfl⟩
theorem RF3 {X:World} {b:Nat} {u0 u1 u2:Value} {T:TypeId} (h:Row X b (.cells #[u0,u1,u2] T)):b<X.heap.size∧X.cell? ⟨b,0,none⟩=some u0∧X.cell? ⟨b,1,none⟩=some u1∧X.cell? ⟨b,2,none⟩=some u2:=⟨h.1,Row.cell_at h 0 rfl,Row.cell_at h 1 rfl,Row.cell_at h 2 rfl⟩
theorem RF4 {X:World} {b:Nat} {u0 u1 u2 u3:Value} {T:TypeId} (h:Row X b (.cells #[u0,u1,u2,u3] T)):b<X.heap.size∧X.cell? ⟨b,0,none⟩=some u0∧X.cell? ⟨b,1,none⟩=some u1∧X.cell? ⟨b,2,none⟩=some u2∧X.cell? ⟨b,3,none⟩=some u3:=⟨h.1,Row.cell_at h 0 rfl,Row.cell_at h 1 rfl,Row.cell_at h 2 rfl,Row.cell_at h 3 rfl⟩
theorem RF5 {X:World} {b:Nat} {u0 u1 u2 u3 u4:Value} {T:TypeId} (h:Row X b (.cells #[u0,u1,u2,u3,u4] T)):b<X.heap.size∧X.cell? ⟨b,0,none⟩=some u0∧X.cell? ⟨b,1,none⟩=some u1∧X.cell? ⟨b,2,none⟩=some u2∧X.cell? ⟨b,3,none⟩=some u3∧X.cell? ⟨b,4,none⟩=some u4:=⟨h.1,Row.cell_at h 0 rfl,Row.cell_at h 1 rfl,Row.cell_at h 2 rfl,Row.cell_at h 3 rfl,Row.cell_at h 4 rfl⟩
theorem RF6 {X:World} {b:Nat} {u0 u1 u2 u3 u4 u5:Value} {T:TypeId} (h:Row X b (.cells #[u0,u1,u2,u3,u4,u5] T)):b<X.heap.size∧X.cell? ⟨b,0,none⟩=some u0∧X.cell? ⟨b,1,none⟩=some u1∧X.cell? ⟨b,2,none⟩=some u2∧X.cell? ⟨b,3,none⟩=some u3∧X.cell? ⟨b,4,none⟩=some u4∧X.cell? ⟨b,5,none⟩=some u5:=⟨h.1,Row.cell_at h 0 rfl,Row.cell_at h 1 rfl,Row.cell_at h 2 rfl,Row.cell_at h 3 rfl,Row.cell_at h 4 rfl,Row.cell_at h 5 rfl⟩
theorem RFz2 {X:World} {b:Nat} {u0 u1:Value} {T:TypeId} (h:Row X b (.cells #[u0,u1] T)):b<X.heap.size∧X.cell? ⟨b,0,none⟩=some u0∧X.cell? ⟨b,1,none⟩=some u1∧X.frozen? ⟨b,0,none⟩=false∧X.frozen? ⟨b,1,none⟩=false:=⟨h.1,Row.cell_at h 0 rfl,Row.cell_at h 1 rfl,frozen_of_row _ _ 0 _ _ h.2,frozen_of_row _ _ 1 _ _ h.2⟩
theorem RFz4 {X:World} {b:Nat} {u0 u1 u2 u3:Value} {T:TypeId} (h:Row X b (.cells #[u0,u1,u2,u3] T)):b<X.heap.size∧X.cell? ⟨b,0,none⟩=some u0∧X.cell? ⟨b,1,none⟩=some u1∧X.cell? ⟨b,2,none⟩=some u2∧X.cell? ⟨b,3,none⟩=some u3∧X.frozen? ⟨b,0,none⟩=false∧X.frozen? ⟨b,1,none⟩=false∧X.frozen? ⟨b,2,none⟩=false∧X.frozen? ⟨b,3,none⟩=false:=⟨h.1,Row.cell_at h 0 rfl,Row.cell_at h 1 rfl,Row.cell_at h 2 rfl,Row.cell_at h 3 rfl,frozen_of_row _ _ 0 _ _ h.2,frozen_of_row _ _ 1 _ _ h.2,frozen_of_row _ _ 2 _ _ h.2,frozen_of_row _ _ 3 _ _ h.2⟩
theorem RFz5 {X:World} {b:Nat} {u0 u1 u2 u3 u4:Value} {T:TypeId} (h:Row X b (.cells #[u0,u1,u2,u3,u4] T)):b<X.heap.size∧X.cell? ⟨b,0,none⟩=some u0∧X.cell? ⟨b,1,none⟩=some u1∧X.cell? ⟨b,2,none⟩=some u2∧X.cell? ⟨b,3,none⟩=some u3∧X.cell? ⟨b,4,none⟩=some u4∧X.frozen? ⟨b,0,none⟩=false∧X.frozen? ⟨b,1,none⟩=false∧X.frozen? ⟨b,2,none⟩=false∧X.frozen? ⟨b,3,none⟩=false∧X.frozen? ⟨b,4,none⟩=false:=⟨h.1,Row.cell_at h 0 rfl,Row.cell_at h 1 rfl,Row.cell_at h 2 rfl,Row.cell_at h 3 rfl,Row.cell_at h 4 rfl,frozen_of_row _ _ 0 _ _ h.2,frozen_of_row _ _ 1 _ _ h.2,frozen_of_row _ _ 2 _ _ h.2,frozen_of_row _ _ 3 _ _ h.2,frozen_of_row _ _ 4 _ _ h.2⟩
theorem St0 {A X W:World} (hB:Below A.heap.size A X) (h1:Below X.heap.size X W):Below A.heap.size A W:=hB.trans (h1.mono hB.size)
theorem St1 {A X W:World} {b0:Nat} {o0:Obj} (hB:Below A.heap.size A X) (h1:Below X.heap.size X W) (r0:Row X b0 o0):Below A.heap.size A W∧Row W b0 o0:=⟨hB.trans (h1.mono hB.size),Row.below r0 h1⟩
theorem St2 {A X W:World} {b0 b1:Nat} {o0 o1:Obj} (hB:Below A.heap.size A X) (h1:Below X.heap.size X W) (r0:Row X b0 o0) (r1:Row X b1 o1):Below A.heap.size A W∧Row W b0 o0∧Row W b1 o1:=⟨hB.trans (h1.mono hB.size),Row.below r0 h1,Row.below r1 h1⟩
theorem St3 {A X W:World} {b0 b1 b2:Nat} {o0 o1 o2:Obj} (hB:Below A.heap.size A X) (h1:Below X.heap.size X W) (r0:Row X b0 o0) (r1:Row X b1 o1) (r2:Row X b2 o2):Below A.heap.size A W∧Row W b0 o0∧Row W b1 o1∧Row W b2 o2:=⟨hB.trans (h1.mono hB.size),Row.below r0 h1,Row.below r1 h1,Row.below r2 h1⟩
theorem St4 {A X W:World} {b0 b1 b2 b3:Nat} {o0 o1 o2 o3:Obj} (hB:Below A.heap.size A X) (h1:Below X.heap.size X W) (r0:Row X b0 o0) (r1:Row X b1 o1) (r2:Row X b2 o2) (r3:Row X b3 o3):Below A.heap.size A W∧Row W b0 o0∧Row W b1 o1∧Row W b2 o2∧Row W b3 o3:=⟨hB.trans (h1.mono hB.size),Row.below r0 h1,Row.below r1 h1,Row.below r2 h1,Row.below r3 h1⟩
theorem St5 {A X W:World} {b0 b1 b2 b3 b4:Nat} {o0 o1 o2 o3 o4:Obj} (hB:Below A.heap.size A X) (h1:Below X.heap.size X W) (r0:Row X b0 o0) (r1:Row X b1 o1) (r2:Row X b2 o2) (r3:Row X b3 o3) (r4:Row X b4 o4):Below A.heap.size A W∧Row W b0 o0∧Row W b1 o1∧Row W b2 o2∧Row W b3 o3∧Row W b4 o4:=⟨hB.trans (h1.mono hB.size),Row.below r0 h1,Row.below r1 h1,Row.below r2 h1,Row.below r3 h1,Row.below r4 h1⟩
theorem St6 {A X W:World} {b0 b1 b2 b3 b4 b5:Nat} {o0 o1 o2 o3 o4 o5:Obj} (hB:Below A.heap.size A X) (h1:Below X.heap.size X W) (r0:Row X b0 o0) (r1:Row X b1 o1) (r2:Row X b2 o2) (r3:Row X b3 o3) (r4:Row X b4 o4) (r5:Row X b5 o5):Below A.heap.size A W∧Row W b0 o0∧Row W b1 o1∧Row W b2 o2∧Row W b3 o3∧Row W b4 o4∧Row W b5 o5:=⟨hB.trans (h1.mono hB.size),Row.below r0 h1,Row.below r1 h1,Row.below r2 h1,Row.below r3 h1,Row.below r4 h1,Row.below r5 h1⟩
theorem St7 {A X W:World} {b0 b1 b2 b3 b4 b5 b6:Nat} {o0 o1 o2 o3 o4 o5 o6:Obj} (hB:Below A.heap.size A X) (h1:Below X.heap.size X W) (r0:Row X b0 o0) (r1:Row X b1 o1) (r2:Row X b2 o2) (r3:Row X b3 o3) (r4:Row X b4 o4) (r5:Row X b5 o5) (r6:Row X b6 o6):Below A.heap.size A W∧Row W b0 o0∧Row W b1 o1∧Row W b2 o2∧Row W b3 o3∧Row W b4 o4∧Row W b5 o5∧Row W b6 o6:=⟨hB.trans (h1.mono hB.size),Row.below r0 h1,Row.below r1 h1,Row.below r2 h1,Row.below r3 h1,Row.below r4 h1,Row.below r5 h1,Row.below r6 h1⟩
theorem St8 {A X W:World} {b0 b1 b2 b3 b4 b5 b6 b7:Nat} {o0 o1 o2 o3 o4 o5 o6 o7:Obj} (hB:Below A.heap.size A X) (h1:Below X.heap.size X W) (r0:Row X b0 o0) (r1:Row X b1 o1) (r2:Row X b2 o2) (r3:Row X b3 o3) (r4:Row X b4 o4) (r5:Row X b5 o5) (r6:Row X b6 o6) (r7:Row X b7 o7):Below A.heap.size A W∧Row W b0 o0∧Row W b1 o1∧Row W b2 o2∧Row W b3 o3∧Row W b4 o4∧Row W b5 o5∧Row W b6 o6∧Row W b7 o7:=⟨hB.trans (h1.mono hB.size),Row.below r0 h1,Row.below r1 h1,Row.below r2 h1,Row.below r3 h1,Row.below r4 h1,Row.below r5 h1,Row.below r6 h1,Row.below r7 h1⟩
end Go.Proofs.YtjpkfjmmmmfeeaaGreatDoor
namespace Go.Proofs.YtjpkfjmmmmfeeaaGreatDoor
open Go Go.RowKit Go.Lib Go.Shelf
theorem amust (q:Rat) (w:World):Calls Tryz.prog 94 #[Q q,.int .i64 0] w (QIs q w):=by
 have hB:Below w.heap.size w w:=Below.refl _ _
 unfold QIs Q
 go_enter Tryz.func94, Tryz.ntmps94
 go_wp2_with fail
 have d0_o:w.heap.size≤w.heap.size+1:=by have:=hB.size;omega
 have sB:=hB.size
 refine world_cut (fun X=>Below w.heap.size w X∧Row X w.heap.size (.cells #[.string (S q.num),.string (S (q.den:Int))] 27)∧Row X (w.heap.size+1) (.cells #[.string ⟨#[]⟩,.string ⟨#[]⟩] 27)) ⟨BW,RWh,RWh⟩ ?_
 clear hB sB
 rintro V1 ⟨hB,rx,ro⟩
 obtain ⟨sx,cx0,cx1⟩:=RF2 rx
 obtain ⟨so,co0,co1,fo0,fo1⟩:=RFz2 ro
 refine (acheck_true _).mono ?_
 rintro e W2 ⟨rfl,h1⟩
 have stp:=St2 hB h1 rx ro;clear hB h1 rx sx cx0 cx1 ro so co0 co1 fo0 fo1
 obtain ⟨hB,rx,ro⟩:=stp
 obtain ⟨sx,cx0,cx1⟩:=RF2 rx
 obtain ⟨so,co0,co1,fo0,fo1⟩:=RFz2 ro
 go_wp2_with fail
 have sB:=hB.size
 refine post_cut (fun X=>Below w.heap.size w X∧Row X (w.heap.size+1) (.cells #[.string (S q.num),.string (S (q.den:Int))] 27)) ⟨BW,RWh⟩ ?_
 clear rx
 clear sx cx0 cx1
 clear ro
 clear so co0 co1 fo0 fo1
 clear hB sB
 rintro V3 ⟨hB,ro⟩
 obtain ⟨so,co0,co1,fo0,fo1⟩:=RFz2 ro
 refine bodyPost_ret (v := .agg #[.string (S q.num),.string (S (q.den:Int))]) ?res rfl ⟨rfl,hB⟩
 case res=>simp [results,Tryz.results94, go_sem,co0,co1]
theorem nadd {a b:Rat} (h:AF a b) (w:World) (he:Env w):Calls Tryz.prog 45 #[Q a,Q b] w (QIs (a+b) w):=by
 have hB:Below w.heap.size w w:=Below.refl _ _
 have M:=fun W (H:Env W)=>qaddF h W H
 have MM:=fun W=>amust (a+b) W
 unfold QOk Q at M
 unfold QIs Q at *
 generalize a+b=q at *
 clear h
 go_enter Tryz.func45, Tryz.ntmps45
 go_wp2_with fail
 have d0_o:w.heap.size≤w.heap.size+1+1:=by have:=hB.size;omega
 have sB:=hB.size
 refine world_cut (fun X=>Below w.heap.size w X∧Row X (w.heap.size+1+1) (.cells #[.string ⟨#[]⟩,.string ⟨#[]⟩] 76)) ⟨BW,RWh⟩ ?_
 clear hB sB
 rintro V1 ⟨hB,ro⟩
 obtain ⟨so,co0,co1,fo0,fo1⟩:=RFz2 ro
 refine (M _ (he.below hB)).mono ?_
 rintro e W2 ⟨rfl,h1⟩
 have stp:=St1 hB h1 ro;clear hB h1 ro so co0 co1 fo0 fo1
 obtain ⟨hB,ro⟩:=stp
 obtain ⟨so,co0,co1,fo0,fo1⟩:=RFz2 ro
 go_wp2_with fail
 refine (MM _).mono ?_
 rintro e W3 ⟨rfl,h1⟩
 have stp:=St1 hB h1 ro;clear hB h1 ro so co0 co1 fo0 fo1
 obtain ⟨hB,ro⟩:=stp
 obtain ⟨so,co0,co1,fo0,fo1⟩:=RFz2 ro
 go_wp2_with fail
 have sB:=hB.size
 refine post_cut (fun X=>Below w.heap.size w X∧Row X (w.heap.size+1+1) (.cells #[.string (S q.num),.string (S (q.den:Int))] 76)) ⟨BW,RWh⟩ ?_
 clear ro
 clear so co0 co1 fo0 fo1
 clear hB sB
 rintro V4 ⟨hB,ro⟩
 obtain ⟨so,co0,co1,fo0,fo1⟩:=RFz2 ro
 refine bodyPost_ret (v := .agg #[.string (S q.num),.string (S (q.den:Int))]) ?res rfl ⟨rfl,hB⟩
 case res=>simp [results,Tryz.results45, go_sem,co0,co1]
theorem nsub {a b:Rat} (h:SF a b) (w:World) (he:Env w):Calls Tryz.prog 96 #[Q a,Q b] w (QIs (a - b) w):=by
 have hB:Below w.heap.size w w:=Below.refl _ _
 have M:=fun W (H:Env W)=>qsubF h W H
 have MM:=fun W=>amust (a - b) W
 unfold QOk Q at M
 unfold QIs Q at *
 generalize a - b=q at *
 clear h
 go_enter Tryz.func96, Tryz.ntmps96
 go_wp2_with fail
 have d0_o:w.heap.size≤w.heap.size+1+1:=by have:=hB.size;omega
 have sB:=hB.size
 refine world_cut (fun X=>Below w.heap.size w X∧Row X (w.heap.size+1+1) (.cells #[.string ⟨#[]⟩,.string ⟨#[]⟩] 76)) ⟨BW,RWh⟩ ?_
 clear hB sB
 rintro V1 ⟨hB,ro⟩
 obtain ⟨so,co0,co1,fo0,fo1⟩:=RFz2 ro
 refine (M _ (he.below hB)).mono ?_
 rintro e W2 ⟨rfl,h1⟩
 have stp:=St1 hB h1 ro;clear hB h1 ro so co0 co1 fo0 fo1
 obtain ⟨hB,ro⟩:=stp
 obtain ⟨so,co0,co1,fo0,fo1⟩:=RFz2 ro
 go_wp2_with fail
 refine (MM _).mono ?_
 rintro e W3 ⟨rfl,h1⟩
 have stp:=St1 hB h1 ro;clear hB h1 ro so co0 co1 fo0 fo1
 obtain ⟨hB,ro⟩:=stp
 obtain ⟨so,co0,co1,fo0,fo1⟩:=RFz2 ro
 go_wp2_with fail
 have sB:=hB.size
 refine post_cut (fun X=>Below w.heap.size w X∧Row X (w.heap.size+1+1) (.cells #[.string (S q.num),.string (S (q.den:Int))] 76)) ⟨BW,RWh⟩ ?_
 clear ro
 clear so co0 co1 fo0 fo1
 clear hB sB
 rintro V4 ⟨hB,ro⟩
 obtain ⟨so,co0,co1,fo0,fo1⟩:=RFz2 ro
 refine bodyPost_ret (v := .agg #[.string (S q.num),.string (S (q.den:Int))]) ?res rfl ⟨rfl,hB⟩
 case res=>simp [results,Tryz.results96, go_sem,co0,co1]
theorem nmul {a b:Rat} (h:MF a b) (w:World) (he:Env w):Calls Tryz.prog 44 #[Q a,Q b] w (QIs (a * b) w):=by
 have hB:Below w.heap.size w w:=Below.refl _ _
 have M:=fun W (H:Env W)=>qmulF h W H
 have MM:=fun W=>amust (a * b) W
 unfold QOk Q at M
 unfold QIs Q at *
 generalize a * b=q at *
 clear h
 go_enter Tryz.func44, Tryz.ntmps44
 go_wp2_with fail
 have d0_o:w.heap.size≤w.heap.size+1+1:=by have:=hB.size;omega
 have sB:=hB.size
 refine world_cut (fun X=>Below w.heap.size w X∧Row X (w.heap.size+1+1) (.cells #[.string ⟨#[]⟩,.string ⟨#[]⟩] 76)) ⟨BW,RWh⟩ ?_
 clear hB sB
 rintro V1 ⟨hB,ro⟩
 obtain ⟨so,co0,co1,fo0,fo1⟩:=RFz2 ro
 refine (M _ (he.below hB)).mono ?_
 rintro e W2 ⟨rfl,h1⟩
 have stp:=St1 hB h1 ro;clear hB h1 ro so co0 co1 fo0 fo1
 obtain ⟨hB,ro⟩:=stp
 obtain ⟨so,co0,co1,fo0,fo1⟩:=RFz2 ro
 go_wp2_with fail
 refine (MM _).mono ?_
 rintro e W3 ⟨rfl,h1⟩
 have stp:=St1 hB h1 ro;clear hB h1 ro so co0 co1 fo0 fo1
 obtain ⟨hB,ro⟩:=stp
 obtain ⟨so,co0,co1,fo0,fo1⟩:=RFz2 ro
 go_wp2_with fail
 have sB:=hB.size
 refine post_cut (fun X=>Below w.heap.size w X∧Row X (w.heap.size+1+1) (.cells #[.string (S q.num),.string (S (q.den:Int))] 76)) ⟨BW,RWh⟩ ?_
 clear ro
 clear so co0 co1 fo0 fo1
 clear hB sB
 rintro V4 ⟨hB,ro⟩
 obtain ⟨so,co0,co1,fo0,fo1⟩:=RFz2 ro
 refine bodyPost_ret (v := .agg #[.string (S q.num),.string (S (q.den:Int))]) ?res rfl ⟨rfl,hB⟩
 case res=>simp [results,Tryz.results44, go_sem,co0,co1]
theorem ndiv {a b:Rat} (h:DF a b) (w:World) (he:Env w):Calls Tryz.prog 85 #[Q a,Q b] w (QIs (a / b) w):=by
 have hB:Below w.heap.size w w:=Below.refl _ _
 have M:=fun W (H:Env W)=>qdivF h W H
 have MM:=fun W=>amust (a / b) W
 unfold QOk Q at M
 unfold QIs Q at *
 generalize a / b=q at *
 clear h
 go_enter Tryz.func85, Tryz.ntmps85
 go_wp2_with fail
 have d0_o:w.heap.size≤w.heap.size+1+1:=by have:=hB.size;omega
 have sB:=hB.size
 refine world_cut (fun X=>Below w.heap.size w X∧Row X (w.heap.size+1+1) (.cells #[.string ⟨#[]⟩,.string ⟨#[]⟩] 76)) ⟨BW,RWh⟩ ?_
 clear hB sB
 rintro V1 ⟨hB,ro⟩
 obtain ⟨so,co0,co1,fo0,fo1⟩:=RFz2 ro
 refine (M _ (he.below hB)).mono ?_
 rintro e W2 ⟨rfl,h1⟩
 have stp:=St1 hB h1 ro;clear hB h1 ro so co0 co1 fo0 fo1
 obtain ⟨hB,ro⟩:=stp
 obtain ⟨so,co0,co1,fo0,fo1⟩:=RFz2 ro
 go_wp2_with fail
 refine (MM _).mono ?_
 rintro e W3 ⟨rfl,h1⟩
 have stp:=St1 hB h1 ro;clear hB h1 ro so co0 co1 fo0 fo1
 obtain ⟨hB,ro⟩:=stp
 obtain ⟨so,co0,co1,fo0,fo1⟩:=RFz2 ro
 go_wp2_with fail
 have sB:=hB.size
 refine post_cut (fun X=>Below w.heap.size w X∧Row X (w.heap.size+1+1) (.cells #[.string (S q.num),.string (S (q.den:Int))] 76)) ⟨BW,RWh⟩ ?_
 clear ro
 clear so co0 co1 fo0 fo1
 clear hB sB
 rintro V4 ⟨hB,ro⟩
 obtain ⟨so,co0,co1,fo0,fo1⟩:=RFz2 ro
 refine bodyPost_ret (v := .agg #[.string (S q.num),.string (S (q.den:Int))]) ?res rfl ⟨rfl,hB⟩
 case res=>simp [results,Tryz.results85, go_sem,co0,co1]
theorem awhole {n:Int} {q:Rat} (hn:IsInt n) (hq:Rat.divInt n 1=q) (w:World) (he:Env w):Calls Tryz.prog 48 #[.int .i64 n] w (QIs q w):=by
 have hB:Below w.heap.size w w:=Below.refl _ _
 have M:=fun W (H:Env W)=>qof hn (by decide:IsInt 1) (by decide) W H
 rw [hq] at M
 unfold QOk Q at M
 unfold QIs Q at *
 clear hn hq
 go_enter Tryz.func48, Tryz.ntmps48
 go_wp2_with fail
 have d0_o:w.heap.size≤w.heap.size:=by have:=hB.size;omega
 have sB:=hB.size
 refine world_cut (fun X=>Below w.heap.size w X∧Row X w.heap.size (.cells #[.string ⟨#[]⟩,.string ⟨#[]⟩] 76)) ⟨BW,RWh⟩ ?_
 clear hB sB
 rintro V1 ⟨hB,ro⟩
 obtain ⟨so,co0,co1,fo0,fo1⟩:=RFz2 ro
 refine (M _ (he.below hB)).mono ?_
 rintro e W2 ⟨rfl,h1⟩
 have stp:=St1 hB h1 ro;clear hB h1 ro so co0 co1 fo0 fo1
 obtain ⟨hB,ro⟩:=stp
 obtain ⟨so,co0,co1,fo0,fo1⟩:=RFz2 ro
 go_wp2_with fail
 have sB:=hB.size
 refine post_cut (fun X=>Below w.heap.size w X∧Row X w.heap.size (.cells #[.string (S q.num),.string (S (q.den:Int))] 76)) ⟨BW,RWh⟩ ?_
 clear ro
 clear so co0 co1 fo0 fo1
 clear hB sB
 rintro V3 ⟨hB,ro⟩
 obtain ⟨so,co0,co1,fo0,fo1⟩:=RFz2 ro
 refine bodyPost_ret (v := .agg #[.string (S q.num),.string (S (q.den:Int))]) ?res rfl ⟨rfl,hB⟩
 case res=>simp [results,Tryz.results48, go_sem,co0,co1]
theorem whole0:Rat.divInt 0 1=0:=by decide +kernel
theorem dig0:QDig 200 0:=⟨by unfold Dig;decide,by unfold Dig;decide⟩
/-! A number's fields. -/
theorem fnum (x y:ByteArray) (W:World):(Instr.field 76 (.agg #[.string x,.string y]) 0).run Tryz.prog W = .ok (.agg #[.string x,.string y]) W:=by kernel_rfl
theorem frat0 (x y:ByteArray) (W:World):(Instr.field 27 (.agg #[.string x,.string y]) 0).run Tryz.prog W = .ok (.string x) W:=by kernel_rfl
theorem nsign {a:Rat} (ha:QDig 200 a) (w:World) (he:Env w):Calls Tryz.prog 80 #[Q a] w (CmpOk (cmpQ a 0) w):=by
 have hB:Below w.heap.size w w:=Below.refl _ _
 have FN:=fnum
 have M0:=fun W (H:Env W)=>awhole (n:=0) (by decide) whole0 W H
 have M:=fun W (H:Env W)=>qcompare a 0 ha dig0 W H
 unfold CmpOk at *
 unfold QIs at M0
 unfold Q at *
 generalize cmpQ a 0=c at *
 generalize (0:Rat)=z at *
 clear ha
 go_enter Tryz.func80, Tryz.ntmps80
 go_wp2_with fail
 have sB:=hB.size
 refine wp_cut (fun X=>Below w.heap.size w X∧Row X w.heap.size (.cells #[.string (S a.num),.string (S (a.den:Int))] 76)) ⟨BW,RWh⟩ ?_
 clear hB sB
 rintro V1 ⟨hB,rx⟩
 obtain ⟨sx,cx0,cx1⟩:=RF2 rx
 refine wp_region_vals [.pointer (some ⟨w.heap.size,0,none⟩),.agg #[.string (S a.num),.string (S (a.den:Int))],.agg #[.string (S z.num),.string (S (z.den:Int))],.agg #[.string (S z.num),.string (S (z.den:Int))],.int .i64 c,.int .i64 c] (by kernel_rfl) (by kernel_rfl) rfl (allVals.cons qv0 (allVals.cons (qv1 fun X h=>RF2 (Row.below rx h)) (allVals.cons (qv2 fun X h=>M0 X (he.below (hB.trans (h.mono hB.size)))) (allVals.cons (qvf FN) (allVals.cons (qv2 fun X h=>M X (he.below (hB.trans (h.mono hB.size)))) (allVals.cons qv0 trivial)))))) ?_
 rintro W h1
 have stp:=St1 hB h1 rx;clear hB h1 rx sx cx0 cx1
 obtain ⟨hB,rx⟩:=stp
 obtain ⟨sx,cx0,cx1⟩:=RF2 rx
 simp only [setVals,List.setIfInBounds_toArray,List.set_cons_succ,List.set_cons_zero]
 go_wp2
 go_ret
 exact ⟨rfl,hB⟩
theorem nzero_yes {a:Rat} (h:a=0) (w:World) (he:Env w):Calls Tryz.prog 79 #[Q a] w (BoolOk true w):=by
 have hB:Below w.heap.size w w:=Below.refl _ _
 have FN:=fnum
 have FR:=frat0
 have M0:=fun W (H:Env W)=>awhole (n:=0) (by decide) whole0 W H
 have h2:((S a.num).toList == (S (0:Rat).num).toList)=true:=by subst h;simp
 unfold BoolOk
 unfold QIs at M0
 unfold Q at *
 clear h
 generalize (0:Rat)=z at *
 go_enter Tryz.func79, Tryz.ntmps79
 go_wp2_with fail
 have sB:=hB.size
 refine wp_cut (fun X=>Below w.heap.size w X∧Row X w.heap.size (.cells #[.string (S a.num),.string (S (a.den:Int))] 76)) ⟨BW,RWh⟩ ?_
 clear hB sB
 rintro V1 ⟨hB,rx⟩
 obtain ⟨sx,cx0,cx1⟩:=RF2 rx
 refine wp_region_vals [.pointer (some ⟨w.heap.size,0,none⟩),.pointer (some ⟨w.heap.size,0,none⟩),.string (S a.num),.agg #[.string (S z.num),.string (S (z.den:Int))],.agg #[.string (S z.num),.string (S (z.den:Int))],.string (S z.num),.bool true,.bool true] (by kernel_rfl) (by kernel_rfl) rfl (allVals.cons qv0 (allVals.cons qv0 (allVals.cons (qv1 fun X h=>RF2 (Row.below rx h)) (allVals.cons (qv2 fun X h=>M0 X (he.below (hB.trans (h.mono hB.size)))) (allVals.cons (qvf FN) (allVals.cons (qvf FR) (allVals.cons (qvf h2) (allVals.cons qv0 trivial)))))))) ?_
 rintro W h1
 have stp:=St1 hB h1 rx;clear hB h1 rx sx cx0 cx1
 obtain ⟨hB,rx⟩:=stp
 obtain ⟨sx,cx0,cx1⟩:=RF2 rx
 simp only [setVals,List.setIfInBounds_toArray,List.set_cons_succ,List.set_cons_zero]
 go_wp2
 go_ret
 exact ⟨rfl,hB⟩
theorem nzero_no {a:Rat} (h:a≠0) (w:World) (he:Env w):Calls Tryz.prog 79 #[Q a] w (BoolOk false w):=by
 have hB:Below w.heap.size w w:=Below.refl _ _
 have FN:=fnum
 have FR:=frat0
 have M0:=fun W (H:Env W)=>awhole (n:=0) (by decide) whole0 W H
 have h2:((S a.num).toList == (S (0:Rat).num).toList)=false:=S_ne (fun e=>h (Rat.num_eq_zero.1 e))
 unfold BoolOk
 unfold QIs at M0
 unfold Q at *
 clear h
 generalize (0:Rat)=z at *
 go_enter Tryz.func79, Tryz.ntmps79
 go_wp2_with fail
 have sB:=hB.size
 refine wp_cut (fun X=>Below w.heap.size w X∧Row X w.heap.size (.cells #[.string (S a.num),.string (S (a.den:Int))] 76)) ⟨BW,RWh⟩ ?_
 clear hB sB
 rintro V1 ⟨hB,rx⟩
 obtain ⟨sx,cx0,cx1⟩:=RF2 rx
 refine wp_region_vals [.pointer (some ⟨w.heap.size,0,none⟩),.pointer (some ⟨w.heap.size,0,none⟩),.string (S a.num),.agg #[.string (S z.num),.string (S (z.den:Int))],.agg #[.string (S z.num),.string (S (z.den:Int))],.string (S z.num),.bool false,.bool false] (by kernel_rfl) (by kernel_rfl) rfl (allVals.cons qv0 (allVals.cons qv0 (allVals.cons (qv1 fun X h=>RF2 (Row.below rx h)) (allVals.cons (qv2 fun X h=>M0 X (he.below (hB.trans (h.mono hB.size)))) (allVals.cons (qvf FN) (allVals.cons (qvf FR) (allVals.cons (qvf h2) (allVals.cons qv0 trivial)))))))) ?_
 rintro W h1
 have stp:=St1 hB h1 rx;clear hB h1 rx sx cx0 cx1
 obtain ⟨hB,rx⟩:=stp
 obtain ⟨sx,cx0,cx1⟩:=RF2 rx
 simp only [setVals,List.setIfInBounds_toArray,List.set_cons_succ,List.set_cons_zero]
 go_wp2
 go_ret
 exact ⟨rfl,hB⟩
theorem nzero (a:Rat) (w:World) (he:Env w):Calls Tryz.prog 79 #[Q a] w (BoolOk (decide (a=0)) w):=by
 by_cases h:a=0
 ·rw [decide_eq_true h];exact nzero_yes h w he
 ·rw [decide_eq_false h];exact nzero_no h w he
theorem nabs_pos {a:Rat} (ha:QDig 200 a) (h:0≤a) (w:World) (he:Env w):Calls Tryz.prog 106 #[Q a] w (QIs (absQ a) w):=by
 have hB:Below w.heap.size w w:=Below.refl _ _
 have M:=fun W (H:Env W)=>nsign ha W H
 unfold CmpOk at M
 have hc:0≤cmpQ a 0:=cmpQ_ge.2 h
 rw [absQ_pos h]
 unfold QIs
 unfold Q at *
 generalize cmpQ a 0=g at *
 have hd:decide (g<0)=false:=decide_eq_false (by omega)
 clear hc h ha
 go_enter Tryz.func106, Tryz.ntmps106
 go_wp2_with fail
 have d0_o:w.heap.size≤w.heap.size+1:=by have:=hB.size;omega
 have sB:=hB.size
 refine world_cut (fun X=>Below w.heap.size w X∧Row X w.heap.size (.cells #[.string (S a.num),.string (S (a.den:Int))] 76)∧Row X (w.heap.size+1) (.cells #[.string ⟨#[]⟩,.string ⟨#[]⟩] 76)) ⟨BW,RWh,RWh⟩ ?_
 clear hB sB
 rintro V1 ⟨hB,rx,ro⟩
 obtain ⟨sx,cx0,cx1⟩:=RF2 rx
 obtain ⟨so,co0,co1,fo0,fo1⟩:=RFz2 ro
 refine (M _ (he.below hB)).mono ?_
 rintro e W2 ⟨rfl,h1⟩
 have stp:=St2 hB h1 rx ro;clear hB h1 rx sx cx0 cx1 ro so co0 co1 fo0 fo1
 obtain ⟨hB,rx,ro⟩:=stp
 obtain ⟨sx,cx0,cx1⟩:=RF2 rx
 obtain ⟨so,co0,co1,fo0,fo1⟩:=RFz2 ro
 go_wp2_with fail
 have sB:=hB.size
 refine post_cut (fun X=>Below w.heap.size w X∧Row X (w.heap.size+1) (.cells #[.string (S a.num),.string (S (a.den:Int))] 76)) ⟨BW,RWh⟩ ?_
 clear rx
 clear sx cx0 cx1
 clear ro
 clear so co0 co1 fo0 fo1
 clear hB sB
 rintro V3 ⟨hB,ro⟩
 obtain ⟨so,co0,co1,fo0,fo1⟩:=RFz2 ro
 refine bodyPost_ret (v := .agg #[.string (S a.num),.string (S (a.den:Int))]) ?res rfl ⟨rfl,hB⟩
 case res=>simp [results,Tryz.results106, go_sem,co0,co1]
theorem nabs_neg {a:Rat} (ha:QDig 200 a) (h:a<0) (w:World) (he:Env w):Calls Tryz.prog 106 #[Q a] w (QIs (absQ a) w):=by
 have hB:Below w.heap.size w w:=Below.refl _ _
 have M:=fun W (H:Env W)=>nsign ha W H
 unfold CmpOk at M
 have hc:cmpQ a 0<0:=cmpQ_lt.2 h
 have M0:=fun W (H:Env W)=>awhole (n:=0) (by decide) whole0 W H
 have MS:=fun W (H:Env W)=>nsub (SF.neg ha) W H
 rw [absQ_neg h]
 unfold QIs at M0 MS
 unfold QIs
 unfold Q at *
 generalize cmpQ a 0=g at *
 have hd:decide (g<0)=true:=decide_eq_true (by omega)
 clear hc h ha
 generalize 0 - a=y at *
 generalize (0:Rat)=z at *
 go_enter Tryz.func106, Tryz.ntmps106
 go_wp2_with fail
 have d0_o:w.heap.size≤w.heap.size+1:=by have:=hB.size;omega
 have sB:=hB.size
 refine world_cut (fun X=>Below w.heap.size w X∧Row X w.heap.size (.cells #[.string (S a.num),.string (S (a.den:Int))] 76)∧Row X (w.heap.size+1) (.cells #[.string ⟨#[]⟩,.string ⟨#[]⟩] 76)) ⟨BW,RWh,RWh⟩ ?_
 clear hB sB
 rintro V1 ⟨hB,rx,ro⟩
 obtain ⟨sx,cx0,cx1⟩:=RF2 rx
 obtain ⟨so,co0,co1,fo0,fo1⟩:=RFz2 ro
 refine (M _ (he.below hB)).mono ?_
 rintro e W2 ⟨rfl,h1⟩
 have stp:=St2 hB h1 rx ro;clear hB h1 rx sx cx0 cx1 ro so co0 co1 fo0 fo1
 obtain ⟨hB,rx,ro⟩:=stp
 obtain ⟨sx,cx0,cx1⟩:=RF2 rx
 obtain ⟨so,co0,co1,fo0,fo1⟩:=RFz2 ro
 go_wp2_with fail
 refine wp_region_items 3 [.val (.agg #[.string (S z.num),.string (S (z.den:Int))]),.val (.agg #[.string (S a.num),.string (S (a.den:Int))]),.val (.agg #[.string (S y.num),.string (S (y.den:Int))])] (by kernel_rfl) (by kernel_rfl) trivial (allItems.cons (qi2 fun X h=>M0 X (he.below (hB.trans (h.mono hB.size)))) (allItems.cons (qi1 fun X h=>RF2 (Row.below rx h)) (allItems.cons (qi2 fun X h=>MS X (he.below (hB.trans (h.mono hB.size)))) trivial))) ?_
 rintro W h1
 have stp:=St2 hB h1 rx ro;clear hB h1 rx sx cx0 cx1 ro so co0 co1 fo0 fo1
 obtain ⟨hB,rx,ro⟩:=stp
 obtain ⟨sx,cx0,cx1⟩:=RF2 rx
 obtain ⟨so,co0,co1,fo0,fo1⟩:=RFz2 ro
 simp only [setItems,List.setIfInBounds_toArray,List.set_cons_succ,List.set_cons_zero,List.take_succ_cons,List.take_zero,List.drop_succ_cons,List.drop_zero]
 go_wp2_with fail
 have sB:=hB.size
 refine post_cut (fun X=>Below w.heap.size w X∧Row X (w.heap.size+1) (.cells #[.string (S y.num),.string (S (y.den:Int))] 76)) ⟨BW,RWh⟩ ?_
 clear rx
 clear sx cx0 cx1
 clear ro
 clear so co0 co1 fo0 fo1
 clear hB sB
 rintro V3 ⟨hB,ro⟩
 obtain ⟨so,co0,co1,fo0,fo1⟩:=RFz2 ro
 refine bodyPost_ret (v := .agg #[.string (S y.num),.string (S (y.den:Int))]) ?res rfl ⟨rfl,hB⟩
 case res=>simp [results,Tryz.results106, go_sem,co0,co1]
theorem nabs {a:Rat} (ha:QDig 200 a) (w:World) (he:Env w):Calls Tryz.prog 106 #[Q a] w (QIs (absQ a) w):=by
 by_cases h:a<0
 ·exact nabs_neg ha h w he
 ·exact nabs_pos ha (by grind) w he
end Go.Proofs.YtjpkfjmmmmfeeaaGreatDoor
