/-
 Package affine: must, and the arithmetic of numbers, where nothing is too large. slices.IndexFunc and slices.ContainsFunc over slices of terms and of sources.
-/
import Derived.Test.YtnokpldomlmamaaGreatDoorKARow
import Derived.Test.YtnokpldomlmamaaGreatDoorKEHull
import Derived.Test.YtnokpldomlmamaaGreatDoorKEValid
import Derived.Test.YtnokpldomlmamaaGreatDoorKQCmp
set_option linter.unusedSimpArgs false
set_option linter.unusedVariables false
set_option maxRecDepth 100000
set_option maxHeartbeats 16000000
namespace Go.Proofs.YtnokpldomlmamaaGreatDoor
open Go Go.RowKit Go.Lib Go.Shelf
theorem amust (q:Rat) (w:World):Calls Tryz.prog 123 #[Q q,.int .i64 0] w (QIs q w):=by
 have hB:Below w.heap.size w w:=Below.refl _ _
 unfold QIs Q
 go_enter Tryz.func123, Tryz.ntmps123
 go_wp2_with fail
 have d0_o:w.heap.size≤w.heap.size+1:=by have:=hB.size;omega
 have sB:=hB.size
 refine world_cut (fun X=>Below w.heap.size w X∧Row X w.heap.size (.cells #[.string (S q.num),.string (S (q.den:Int))] 23)∧Row X (w.heap.size+1) (.cells #[.string ⟨#[]⟩,.string ⟨#[]⟩] 23)) ⟨BW,RWh,RWh⟩ ?_
 clear hB sB
 rintro V1 ⟨hB,rx,ro⟩
 have sx:=RF2 rx
 have so:=RFz2 ro
 refine (acheck_true _).mono ?_
 rintro e W2 ⟨rfl,h1⟩
 have stp:=St2 hB h1 rx ro;clear hB h1 rx sx ro so
 obtain ⟨hB,rx,ro⟩:=stp
 have sx:=RF2 rx
 have so:=RFz2 ro
 go_wp2_with fail
 have sB:=hB.size
 refine post_cut (fun X=>Below w.heap.size w X∧Row X (w.heap.size+1) (.cells #[.string (S q.num),.string (S (q.den:Int))] 23)) ⟨BW,RWh⟩ ?_
 clear rx
 clear sx
 clear ro
 clear so
 clear hB sB
 rintro V3 ⟨hB,ro⟩
 have so:=RFz2 ro
 refine bodyPost_ret (v := .agg #[.string (S q.num),.string (S (q.den:Int))]) ?res rfl ⟨rfl,hB⟩
 case res=>simp [results,Tryz.results123, go_sem,so]
theorem nadd {a b:Rat} (h:AF a b) (w:World) (he:Env w):Calls Tryz.prog 83 #[Q a,Q b] w (QIs (a+b) w):=by
 have hB:Below w.heap.size w w:=Below.refl _ _
 have M:=fun W (H:Env W)=>qaddF h W H
 have MM:=fun W=>amust (a+b) W
 unfold QOk Q at M
 unfold QIs Q at *
 generalize a+b=q at *
 clear h
 go_enter Tryz.func83, Tryz.ntmps83
 go_wp2_with fail
 have d0_o:w.heap.size≤w.heap.size+1+1:=by have:=hB.size;omega
 have sB:=hB.size
 refine world_cut (fun X=>Below w.heap.size w X∧Row X (w.heap.size+1+1) (.cells #[.string ⟨#[]⟩,.string ⟨#[]⟩] 112)) ⟨BW,RWh⟩ ?_
 clear hB sB
 rintro V1 ⟨hB,ro⟩
 have so:=RFz2 ro
 refine (M _ (he.below hB)).mono ?_
 rintro e W2 ⟨rfl,h1⟩
 have stp:=St1 hB h1 ro;clear hB h1 ro so
 obtain ⟨hB,ro⟩:=stp
 have so:=RFz2 ro
 go_wp2_with fail
 refine (MM _).mono ?_
 rintro e W3 ⟨rfl,h1⟩
 have stp:=St1 hB h1 ro;clear hB h1 ro so
 obtain ⟨hB,ro⟩:=stp
 have so:=RFz2 ro
 go_wp2_with fail
 have sB:=hB.size
 refine post_cut (fun X=>Below w.heap.size w X∧Row X (w.heap.size+1+1) (.cells #[.string (S q.num),.string (S (q.den:Int))] 112)) ⟨BW,RWh⟩ ?_
 clear ro
 clear so
 clear hB sB
 rintro V4 ⟨hB,ro⟩
 have so:=RFz2 ro
 refine bodyPost_ret (v := .agg #[.string (S q.num),.string (S (q.den:Int))]) ?res rfl ⟨rfl,hB⟩
 case res=>simp [results,Tryz.results83, go_sem,so]
theorem nsub {a b:Rat} (h:SF a b) (w:World) (he:Env w):Calls Tryz.prog 125 #[Q a,Q b] w (QIs (a - b) w):=by
 have hB:Below w.heap.size w w:=Below.refl _ _
 have M:=fun W (H:Env W)=>qsubF h W H
 have MM:=fun W=>amust (a - b) W
 unfold QOk Q at M
 unfold QIs Q at *
 generalize a - b=q at *
 clear h
 go_enter Tryz.func125, Tryz.ntmps125
 go_wp2_with fail
 have d0_o:w.heap.size≤w.heap.size+1+1:=by have:=hB.size;omega
 have sB:=hB.size
 refine world_cut (fun X=>Below w.heap.size w X∧Row X (w.heap.size+1+1) (.cells #[.string ⟨#[]⟩,.string ⟨#[]⟩] 112)) ⟨BW,RWh⟩ ?_
 clear hB sB
 rintro V1 ⟨hB,ro⟩
 have so:=RFz2 ro
 refine (M _ (he.below hB)).mono ?_
 rintro e W2 ⟨rfl,h1⟩
 have stp:=St1 hB h1 ro;clear hB h1 ro so
 obtain ⟨hB,ro⟩:=stp
 have so:=RFz2 ro
 go_wp2_with fail
 refine (MM _).mono ?_
 rintro e W3 ⟨rfl,h1⟩
 have stp:=St1 hB h1 ro;clear hB h1 ro so
 obtain ⟨hB,ro⟩:=stp
 have so:=RFz2 ro
 go_wp2_with fail
 have sB:=hB.size
 refine post_cut (fun X=>Below w.heap.size w X∧Row X (w.heap.size+1+1) (.cells #[.string (S q.num),.string (S (q.den:Int))] 112)) ⟨BW,RWh⟩ ?_
 clear ro
 clear so
 clear hB sB
 rintro V4 ⟨hB,ro⟩
 have so:=RFz2 ro
 refine bodyPost_ret (v := .agg #[.string (S q.num),.string (S (q.den:Int))]) ?res rfl ⟨rfl,hB⟩
 case res=>simp [results,Tryz.results125, go_sem,so]
theorem nmul {a b:Rat} (h:MF a b) (w:World) (he:Env w):Calls Tryz.prog 82 #[Q a,Q b] w (QIs (a * b) w):=by
 have hB:Below w.heap.size w w:=Below.refl _ _
 have M:=fun W (H:Env W)=>qmulF h W H
 have MM:=fun W=>amust (a * b) W
 unfold QOk Q at M
 unfold QIs Q at *
 generalize a * b=q at *
 clear h
 go_enter Tryz.func82, Tryz.ntmps82
 go_wp2_with fail
 have d0_o:w.heap.size≤w.heap.size+1+1:=by have:=hB.size;omega
 have sB:=hB.size
 refine world_cut (fun X=>Below w.heap.size w X∧Row X (w.heap.size+1+1) (.cells #[.string ⟨#[]⟩,.string ⟨#[]⟩] 112)) ⟨BW,RWh⟩ ?_
 clear hB sB
 rintro V1 ⟨hB,ro⟩
 have so:=RFz2 ro
 refine (M _ (he.below hB)).mono ?_
 rintro e W2 ⟨rfl,h1⟩
 have stp:=St1 hB h1 ro;clear hB h1 ro so
 obtain ⟨hB,ro⟩:=stp
 have so:=RFz2 ro
 go_wp2_with fail
 refine (MM _).mono ?_
 rintro e W3 ⟨rfl,h1⟩
 have stp:=St1 hB h1 ro;clear hB h1 ro so
 obtain ⟨hB,ro⟩:=stp
 have so:=RFz2 ro
 go_wp2_with fail
 have sB:=hB.size
 refine post_cut (fun X=>Below w.heap.size w X∧Row X (w.heap.size+1+1) (.cells #[.string (S q.num),.string (S (q.den:Int))] 112)) ⟨BW,RWh⟩ ?_
 clear ro
 clear so
 clear hB sB
 rintro V4 ⟨hB,ro⟩
 have so:=RFz2 ro
 refine bodyPost_ret (v := .agg #[.string (S q.num),.string (S (q.den:Int))]) ?res rfl ⟨rfl,hB⟩
 case res=>simp [results,Tryz.results82, go_sem,so]
theorem ndiv {a b:Rat} (h:DF a b) (w:World) (he:Env w):Calls Tryz.prog 119 #[Q a,Q b] w (QIs (a / b) w):=by
 have hB:Below w.heap.size w w:=Below.refl _ _
 have M:=fun W (H:Env W)=>qdivF h W H
 have MM:=fun W=>amust (a / b) W
 unfold QOk Q at M
 unfold QIs Q at *
 generalize a / b=q at *
 clear h
 go_enter Tryz.func119, Tryz.ntmps119
 go_wp2_with fail
 have d0_o:w.heap.size≤w.heap.size+1+1:=by have:=hB.size;omega
 have sB:=hB.size
 refine world_cut (fun X=>Below w.heap.size w X∧Row X (w.heap.size+1+1) (.cells #[.string ⟨#[]⟩,.string ⟨#[]⟩] 112)) ⟨BW,RWh⟩ ?_
 clear hB sB
 rintro V1 ⟨hB,ro⟩
 have so:=RFz2 ro
 refine (M _ (he.below hB)).mono ?_
 rintro e W2 ⟨rfl,h1⟩
 have stp:=St1 hB h1 ro;clear hB h1 ro so
 obtain ⟨hB,ro⟩:=stp
 have so:=RFz2 ro
 go_wp2_with fail
 refine (MM _).mono ?_
 rintro e W3 ⟨rfl,h1⟩
 have stp:=St1 hB h1 ro;clear hB h1 ro so
 obtain ⟨hB,ro⟩:=stp
 have so:=RFz2 ro
 go_wp2_with fail
 have sB:=hB.size
 refine post_cut (fun X=>Below w.heap.size w X∧Row X (w.heap.size+1+1) (.cells #[.string (S q.num),.string (S (q.den:Int))] 112)) ⟨BW,RWh⟩ ?_
 clear ro
 clear so
 clear hB sB
 rintro V4 ⟨hB,ro⟩
 have so:=RFz2 ro
 refine bodyPost_ret (v := .agg #[.string (S q.num),.string (S (q.den:Int))]) ?res rfl ⟨rfl,hB⟩
 case res=>simp [results,Tryz.results119, go_sem,so]
theorem awhole {n:Int} {q:Rat} (hn:IsInt n) (hq:Rat.divInt n 1=q) (w:World) (he:Env w):Calls Tryz.prog 78 #[.int .i64 n] w (QIs q w):=by
 have hB:Below w.heap.size w w:=Below.refl _ _
 have M:=fun W (H:Env W)=>qof hn (by decide:IsInt 1) (by decide) W H
 rw [hq] at M
 unfold QOk Q at M
 unfold QIs Q at *
 clear hn hq
 go_enter Tryz.func78, Tryz.ntmps78
 go_wp2_with fail
 have d0_o:w.heap.size≤w.heap.size:=by have:=hB.size;omega
 have sB:=hB.size
 refine world_cut (fun X=>Below w.heap.size w X∧Row X w.heap.size (.cells #[.string ⟨#[]⟩,.string ⟨#[]⟩] 112)) ⟨BW,RWh⟩ ?_
 clear hB sB
 rintro V1 ⟨hB,ro⟩
 have so:=RFz2 ro
 refine (M _ (he.below hB)).mono ?_
 rintro e W2 ⟨rfl,h1⟩
 have stp:=St1 hB h1 ro;clear hB h1 ro so
 obtain ⟨hB,ro⟩:=stp
 have so:=RFz2 ro
 go_wp2_with fail
 have sB:=hB.size
 refine post_cut (fun X=>Below w.heap.size w X∧Row X w.heap.size (.cells #[.string (S q.num),.string (S (q.den:Int))] 112)) ⟨BW,RWh⟩ ?_
 clear ro
 clear so
 clear hB sB
 rintro V3 ⟨hB,ro⟩
 have so:=RFz2 ro
 refine bodyPost_ret (v := .agg #[.string (S q.num),.string (S (q.den:Int))]) ?res rfl ⟨rfl,hB⟩
 case res=>simp [results,Tryz.results78, go_sem,so]
theorem whole0:Rat.divInt 0 1=0:=by decide +kernel
theorem dig0:QDig 200 0:=⟨by unfold Dig;decide,by unfold Dig;decide⟩
/-! A number's fields. -/
theorem fnum (x y:ByteArray) (W:World):(Instr.field 112 (.agg #[.string x,.string y]) 0).run Tryz.prog W = .ok (.agg #[.string x,.string y]) W:=by kernel_rfl
theorem frat0 (x y:ByteArray) (W:World):(Instr.field 23 (.agg #[.string x,.string y]) 0).run Tryz.prog W = .ok (.string x) W:=by kernel_rfl
theorem nsign {a:Rat} (ha:QDig 200 a) (w:World) (he:Env w):Calls Tryz.prog 107 #[Q a] w (CmpOk (cmpQ a 0) w):=by
 have hB:Below w.heap.size w w:=Below.refl _ _
 have FN:=fnum
 have M0:=fun W (H:Env W)=>awhole (n:=0) (by decide) whole0 W H
 have M:=fun W (H:Env W)=>qcompare a 0 ha dig0 W H
 unfold CmpOk at *
 unfold QIs at M0
 unfold Q at *
 generalize cmpQ a 0=c at *
 generalize (0:Rat)=z at *
 clear ha
 go_enter Tryz.func107, Tryz.ntmps107
 go_wp2_with fail
 have sB:=hB.size
 refine wp_cut (fun X=>Below w.heap.size w X∧Row X w.heap.size (.cells #[.string (S a.num),.string (S (a.den:Int))] 112)) ⟨BW,RWh⟩ ?_
 clear hB sB
 rintro V1 ⟨hB,rx⟩
 have sx:=RF2 rx
 refine wp_region_vals [.pointer (some ⟨w.heap.size,0,none⟩),.agg #[.string (S a.num),.string (S (a.den:Int))],.agg #[.string (S z.num),.string (S (z.den:Int))],.agg #[.string (S z.num),.string (S (z.den:Int))],.int .i64 c,.int .i64 c] (by kernel_rfl) (by kernel_rfl) rfl (allVals.cons qv0 (allVals.cons (qv1 fun X h=>RF2 (Row.below rx h)) (allVals.cons (qv2 fun X h=>M0 X (he.below (hB.trans (h.mono hB.size)))) (allVals.cons (qvf FN) (allVals.cons (qv2 fun X h=>M X (he.below (hB.trans (h.mono hB.size)))) (allVals.cons qv0 trivial)))))) ?_
 rintro W h1
 have stp:=St1 hB h1 rx;clear hB h1 rx sx
 obtain ⟨hB,rx⟩:=stp
 have sx:=RF2 rx
 simp only [setVals,List.setIfInBounds_toArray,List.set_cons_succ,List.set_cons_zero]
 go_wp2
 go_ret
 exact ⟨rfl,hB⟩
theorem nzero_yes {a:Rat} (h:a=0) (w:World) (he:Env w):Calls Tryz.prog 106 #[Q a] w (BoolOk true w):=by
 have hB:Below w.heap.size w w:=Below.refl _ _
 have FN:=fnum
 have FR:=frat0
 have M0:=fun W (H:Env W)=>awhole (n:=0) (by decide) whole0 W H
 have h2:((S a.num).toList == (S (0:Rat).num).toList)=true:=by subst h;simp
 unfold BoolOk
 unfold QIs at M0
 unfold Q at *
 clear h
 generalize (0:Rat)=z at *
 go_enter Tryz.func106, Tryz.ntmps106
 go_wp2_with fail
 have sB:=hB.size
 refine wp_cut (fun X=>Below w.heap.size w X∧Row X w.heap.size (.cells #[.string (S a.num),.string (S (a.den:Int))] 112)) ⟨BW,RWh⟩ ?_
 clear hB sB
 rintro V1 ⟨hB,rx⟩
 have sx:=RF2 rx
 refine wp_region_vals [.pointer (some ⟨w.heap.size,0,none⟩),.pointer (some ⟨w.heap.size,0,none⟩),.string (S a.num),.agg #[.string (S z.num),.string (S (z.den:Int))],.agg #[.string (S z.num),.string (S (z.den:Int))],.string (S z.num),.bool true,.bool true] (by kernel_rfl) (by kernel_rfl) rfl (allVals.cons qv0 (allVals.cons qv0 (allVals.cons (qv1 fun X h=>RF2 (Row.below rx h)) (allVals.cons (qv2 fun X h=>M0 X (he.below (hB.trans (h.mono hB.size)))) (allVals.cons (qvf FN) (allVals.cons (qvf FR) (allVals.cons (qvf h2) (allVals.cons qv0 trivial)))))))) ?_
 rintro W h1
 have stp:=St1 hB h1 rx;clear hB h1 rx sx
 obtain ⟨hB,rx⟩:=stp
 have sx:=RF2 rx
 simp only [setVals,List.setIfInBounds_toArray,List.set_cons_succ,List.set_cons_zero]
 go_wp2
 go_ret
 exact ⟨rfl,hB⟩
theorem nzero_no {a:Rat} (h:a≠0) (w:World) (he:Env w):Calls Tryz.prog 106 #[Q a] w (BoolOk false w):=by
 have hB:Below w.heap.size w w:=Below.refl _ _
 have FN:=fnum
 have FR:=frat0
 have M0:=fun W (H:Env W)=>awhole (n:=0) (by decide) whole0 W H
 have h2:((S a.num).toList == (S (0:Rat).num).toList)=false:=S_ne (fun e=>h (Rat.num_eq_zero.1 e))
 unfold BoolOk
 unfold QIs at M0
 unfold Q at *
 clear h
 generalize (0:Rat)=z at *
 go_enter Tryz.func106, Tryz.ntmps106
 go_wp2_with fail
 have sB:=hB.size
 refine wp_cut (fun X=>Below w.heap.size w X∧Row X w.heap.size (.cells #[.string (S a.num),.string (S (a.den:Int))] 112)) ⟨BW,RWh⟩ ?_
 clear hB sB
 rintro V1 ⟨hB,rx⟩
 have sx:=RF2 rx
 refine wp_region_vals [.pointer (some ⟨w.heap.size,0,none⟩),.pointer (some ⟨w.heap.size,0,none⟩),.string (S a.num),.agg #[.string (S z.num),.string (S (z.den:Int))],.agg #[.string (S z.num),.string (S (z.den:Int))],.string (S z.num),.bool false,.bool false] (by kernel_rfl) (by kernel_rfl) rfl (allVals.cons qv0 (allVals.cons qv0 (allVals.cons (qv1 fun X h=>RF2 (Row.below rx h)) (allVals.cons (qv2 fun X h=>M0 X (he.below (hB.trans (h.mono hB.size)))) (allVals.cons (qvf FN) (allVals.cons (qvf FR) (allVals.cons (qvf h2) (allVals.cons qv0 trivial)))))))) ?_
 rintro W h1
 have stp:=St1 hB h1 rx;clear hB h1 rx sx
 obtain ⟨hB,rx⟩:=stp
 have sx:=RF2 rx
 simp only [setVals,List.setIfInBounds_toArray,List.set_cons_succ,List.set_cons_zero]
 go_wp2
 go_ret
 exact ⟨rfl,hB⟩
theorem nzero (a:Rat) (w:World) (he:Env w):Calls Tryz.prog 106 #[Q a] w (BoolOk (decide (a=0)) w):=by
 by_cases h:a=0
 ·rw [decide_eq_true h];exact nzero_yes h w he
 ·rw [decide_eq_false h];exact nzero_no h w he
theorem nabs_pos {a:Rat} (ha:QDig 200 a) (h:0≤a) (w:World) (he:Env w):Calls Tryz.prog 158 #[Q a] w (QIs (absQ a) w):=by
 have hB:Below w.heap.size w w:=Below.refl _ _
 have M:=fun W (H:Env W)=>nsign ha W H
 unfold CmpOk at M
 have hc:0≤cmpQ a 0:=cmpQ_ge.2 h
 rw [absQ_pos h]
 unfold QIs
 unfold Q at *
 generalize cmpQ a 0=g at *
 have hd:decide (g<0)=false:=decide_eq_false (by omega)
 clear hc h ha
 go_enter Tryz.func158, Tryz.ntmps158
 go_wp2_with fail
 have d0_o:w.heap.size≤w.heap.size+1:=by have:=hB.size;omega
 have sB:=hB.size
 refine world_cut (fun X=>Below w.heap.size w X∧Row X w.heap.size (.cells #[.string (S a.num),.string (S (a.den:Int))] 112)∧Row X (w.heap.size+1) (.cells #[.string ⟨#[]⟩,.string ⟨#[]⟩] 112)) ⟨BW,RWh,RWh⟩ ?_
 clear hB sB
 rintro V1 ⟨hB,rx,ro⟩
 have sx:=RF2 rx
 have so:=RFz2 ro
 refine (M _ (he.below hB)).mono ?_
 rintro e W2 ⟨rfl,h1⟩
 have stp:=St2 hB h1 rx ro;clear hB h1 rx sx ro so
 obtain ⟨hB,rx,ro⟩:=stp
 have sx:=RF2 rx
 have so:=RFz2 ro
 go_wp2_with fail
 have sB:=hB.size
 refine post_cut (fun X=>Below w.heap.size w X∧Row X (w.heap.size+1) (.cells #[.string (S a.num),.string (S (a.den:Int))] 112)) ⟨BW,RWh⟩ ?_
 clear rx
 clear sx
 clear ro
 clear so
 clear hB sB
 rintro V3 ⟨hB,ro⟩
 have so:=RFz2 ro
 refine bodyPost_ret (v := .agg #[.string (S a.num),.string (S (a.den:Int))]) ?res rfl ⟨rfl,hB⟩
 case res=>simp [results,Tryz.results158, go_sem,so]
theorem nabs_neg {a:Rat} (ha:QDig 200 a) (h:a<0) (w:World) (he:Env w):Calls Tryz.prog 158 #[Q a] w (QIs (absQ a) w):=by
 have hB:Below w.heap.size w w:=Below.refl _ _
 have M:=fun W (H:Env W)=>nsign ha W H
 unfold CmpOk at M
 have hc:cmpQ a 0<0:=cmpQ_lt.2 h
 have M0:=fun W (H:Env W)=>awhole (n:=0) (by decide) whole0 W H
 have MS:=fun W (H:Env W)=>nsub (SF.neg ha) W H
 rw [absQ_neg h]
 unfold QIs at M0 MS
 unfold QIs
 unfold Q at *
 generalize cmpQ a 0=g at *
 have hd:decide (g<0)=true:=decide_eq_true (by omega)
 clear hc h ha
 generalize 0 - a=y at *
 generalize (0:Rat)=z at *
 go_enter Tryz.func158, Tryz.ntmps158
 go_wp2_with fail
 have d0_o:w.heap.size≤w.heap.size+1:=by have:=hB.size;omega
 have sB:=hB.size
 refine world_cut (fun X=>Below w.heap.size w X∧Row X w.heap.size (.cells #[.string (S a.num),.string (S (a.den:Int))] 112)∧Row X (w.heap.size+1) (.cells #[.string ⟨#[]⟩,.string ⟨#[]⟩] 112)) ⟨BW,RWh,RWh⟩ ?_
 clear hB sB
 rintro V1 ⟨hB,rx,ro⟩
 have sx:=RF2 rx
 have so:=RFz2 ro
 refine (M _ (he.below hB)).mono ?_
 rintro e W2 ⟨rfl,h1⟩
 have stp:=St2 hB h1 rx ro;clear hB h1 rx sx ro so
 obtain ⟨hB,rx,ro⟩:=stp
 have sx:=RF2 rx
 have so:=RFz2 ro
 go_wp2_with fail
 refine wp_region_items 3 [.val (.agg #[.string (S z.num),.string (S (z.den:Int))]),.val (.agg #[.string (S a.num),.string (S (a.den:Int))]),.val (.agg #[.string (S y.num),.string (S (y.den:Int))])] (by kernel_rfl) (by kernel_rfl) trivial (allItems.cons (qi2 fun X h=>M0 X (he.below (hB.trans (h.mono hB.size)))) (allItems.cons (qi1 fun X h=>RF2 (Row.below rx h)) (allItems.cons (qi2 fun X h=>MS X (he.below (hB.trans (h.mono hB.size)))) trivial))) ?_
 rintro W h1
 have stp:=St2 hB h1 rx ro;clear hB h1 rx sx ro so
 obtain ⟨hB,rx,ro⟩:=stp
 have sx:=RF2 rx
 have so:=RFz2 ro
 simp only [setItems,List.setIfInBounds_toArray,List.set_cons_succ,List.set_cons_zero,List.take_succ_cons,List.take_zero,List.drop_succ_cons,List.drop_zero]
 go_wp2_with fail
 have sB:=hB.size
 refine post_cut (fun X=>Below w.heap.size w X∧Row X (w.heap.size+1) (.cells #[.string (S y.num),.string (S (y.den:Int))] 112)) ⟨BW,RWh⟩ ?_
 clear rx
 clear sx
 clear ro
 clear so
 clear hB sB
 rintro V3 ⟨hB,ro⟩
 have so:=RFz2 ro
 refine bodyPost_ret (v := .agg #[.string (S y.num),.string (S (y.den:Int))]) ?res rfl ⟨rfl,hB⟩
 case res=>simp [results,Tryz.results158, go_sem,so]
theorem nabs {a:Rat} (ha:QDig 200 a) (w:World) (he:Env w):Calls Tryz.prog 158 #[Q a] w (QIs (absQ a) w):=by
 by_cases h:a<0
 ·exact nabs_neg ha h w he
 ·exact nabs_pos ha (by grind) w he
end Go.Proofs.YtnokpldomlmamaaGreatDoor
namespace Go.Proofs.YtnokpldomlmamaaGreatDoor
open Go Go.RowKit Go.Lib Go.Shelf
/-- A term, or a source, as a value. -/
def uV (t:RT):Value := .agg #[.int .i64 t.s,.string t.a,.string t.b]
theorem tindex {l:List RT} (P:Nat→Bool) (G:FuncId) (eg:∀ args w,(callFunc G args).run Tryz.prog w = .ok (.enter G args) w) (p:Option Addr) (n c:Nat) (hn:l.length=n) (hn1:n≤1000000) (w:World) (hp:UAt 62 w p l) (h:∀ i,i<n→∀ W,Below w.heap.size w W→Calls Tryz.prog G #[uV (uD l i)] W (BoolOk (P i) W)):Calls Tryz.prog 161 #[.slice p n c,.func (.func G) #[] #[]] w (fun e w'=>∃ r:Int,e = .returned (.int .i64 r)∧((r = -1∧∀ j,j<n→P j=false)∨∃ i:Nat,r=(i:Int)∧i<n∧P i=true)∧Below w.heap.size w w'):=by
 have hB:Below w.heap.size w w:=Below.refl _ _
 have HP:=Lib.hid hp
 clear hp
 have hnI:(n:Int)≤1000000:=by omega
 go_enter Tryz.func161, Tryz.ntmps161
 go_wp2_with fail
 go_loopw [8] (fun v8 wr=>∃ i:Nat,v8 = .int .i64 (i:Int)∧i≤n∧(∀ j,j<i→P j=false)∧Below w.heap.size w wr) (fun v8 _=>(n - RowKit.intOf v8).toNat)
 case atStart=>exact ⟨0,rfl,by omega,fun j hj=>absurd hj (by omega),hB⟩
 case round =>
  clear hB
  obtain ⟨i,rfl,hin,hall,hB⟩:=hrel
  rcases Nat.lt_or_ge i n with hlt | hge
  ·have hlt':i<l.length:=by rw [hn];exact hlt
   have H:=fun W hB=>h i hlt W hB
   obtain ⟨x,hx⟩:∃ x,x=uD l i:=⟨_,rfl⟩
   rw [← hx] at H
   have hlI:(i:Int)<(n:Int):=by omega
   obtain ⟨g,gcur,rfl,rg,g0,g1,g2⟩:=UAt.at (UAt.below HP.out hB) hlt'
   rw [← hx] at g0 g1 g2
   clear hx
   have Fg:∀ X,Row X g (.cells gcur 62)→(g<X.heap.size∧X.cell? ⟨g,i * 3,none⟩=some (.int .i64 x.s)∧X.cell? ⟨g,i * 3+1,none⟩=some (.string x.a)∧X.cell? ⟨g,i * 3+2,none⟩=some (.string x.b)):=fun X h=>⟨h.1,Row.cell_at h _ g0,Row.cell_at h _ g1,Row.cell_at h _ g2⟩
   have sg:=Fg _ rg
   unfold uV at H
   obtain ⟨b,hb⟩:∃ b,b=P i:=⟨_,rfl⟩
   rw [← hb] at H
   have HN:=Lib.hid hn
   have HHB:=Lib.hid hb
   clear h hb hn
   cases b
   ·go_wp2_with fail
    go_wp2_with (go_at_fn G;refine (H _ hB).mono ?_;rintro e W1 ⟨rfl,h1⟩;have stp:=St1 hB h1 rg;clear hB h1 rg sg;obtain ⟨hB,rg⟩:=stp;have sg:=Fg _ rg)
    go_wp2
    go_roundw
    case rel=>exact ⟨i+1,by go_num,by omega,fun j hj=>by rcases Nat.lt_succ_iff_lt_or_eq.1 hj with h | h;(· exact hall j h);(· subst h;exact HHB.out.symm),BW⟩
    case measure=>simp [RowKit.intOf];omega
   ·go_wp2_with fail
    go_wp2_with (go_at_fn G;refine (H _ hB).mono ?_;rintro e W1 ⟨rfl,h1⟩;have stp:=St1 hB h1 rg;clear hB h1 rg sg;obtain ⟨hB,rg⟩:=stp;have sg:=Fg _ rg)
    go_wp2
    go_ret
    exact ⟨(i:Int),rfl,.inr ⟨i,rfl,hlt,HHB.out.symm⟩,hB⟩
  ·obtain rfl:i=n:=by omega
   go_wp2
   go_ret
   exact ⟨-1,rfl,.inl ⟨rfl,hall⟩,hB⟩
theorem tcontains {l:List RT} (P:Nat→Bool) (G:FuncId) (eg:∀ args w,(callFunc G args).run Tryz.prog w = .ok (.enter G args) w) (p:Option Addr) (n c:Nat) (hn:l.length=n) (hn1:n≤1000000) (w:World) (hp:UAt 62 w p l) (h:∀ i,i<n→∀ W,Below w.heap.size w W→Calls Tryz.prog G #[uV (uD l i)] W (BoolOk (P i) W)):Calls Tryz.prog 94 #[.slice p n c,.func (.func G) #[] #[]] w (BoolOk (decide (∃ i,i<n∧P i=true)) w):=by
 have H:=tindex P G eg p n c hn hn1 w hp h
 clear h hp eg
 unfold BoolOk
 generalize hd:decide (∃ i,i<n∧P i=true)=b
 go_enter Tryz.func94, Tryz.ntmps94
 go_wp2_with fail
 refine H.mono ?_
 rintro e W ⟨r,rfl,hr,h1⟩
 have hb:decide (0≤r)=b:=by
  rw [← hd]
  rcases hr with ⟨rfl,hall⟩ | ⟨i,rfl,hi,hP⟩
  ·exact (decide_eq_false (fun ⟨i,hi,h⟩=>by rw [hall i hi] at h;cases h)).symm
  ·exact (decide_eq_true (by omega)).trans (decide_eq_true ⟨i,hi,hP⟩).symm
 clear hr hd
 have HH:=Lib.hid hb
 go_wp2
 go_ret
 exact ⟨rfl,h1⟩
theorem sindex {l:List RT} (P:Nat→Bool) (G:FuncId) (eg:∀ args w,(callFunc G args).run Tryz.prog w = .ok (.enter G args) w) (p:Option Addr) (n c:Nat) (hn:l.length=n) (hn1:n≤1000000) (w:World) (hp:UAt 70 w p l) (h:∀ i,i<n→∀ W,Below w.heap.size w W→Calls Tryz.prog G #[uV (uD l i)] W (BoolOk (P i) W)):Calls Tryz.prog 167 #[.slice p n c,.func (.func G) #[] #[]] w (fun e w'=>∃ r:Int,e = .returned (.int .i64 r)∧((r = -1∧∀ j,j<n→P j=false)∨∃ i:Nat,r=(i:Int)∧i<n∧P i=true)∧Below w.heap.size w w'):=by
 have hB:Below w.heap.size w w:=Below.refl _ _
 have HP:=Lib.hid hp
 clear hp
 have hnI:(n:Int)≤1000000:=by omega
 go_enter Tryz.func167, Tryz.ntmps167
 go_wp2_with fail
 go_loopw [8] (fun v8 wr=>∃ i:Nat,v8 = .int .i64 (i:Int)∧i≤n∧(∀ j,j<i→P j=false)∧Below w.heap.size w wr) (fun v8 _=>(n - RowKit.intOf v8).toNat)
 case atStart=>exact ⟨0,rfl,by omega,fun j hj=>absurd hj (by omega),hB⟩
 case round =>
  clear hB
  obtain ⟨i,rfl,hin,hall,hB⟩:=hrel
  rcases Nat.lt_or_ge i n with hlt | hge
  ·have hlt':i<l.length:=by rw [hn];exact hlt
   have H:=fun W hB=>h i hlt W hB
   obtain ⟨x,hx⟩:∃ x,x=uD l i:=⟨_,rfl⟩
   rw [← hx] at H
   have hlI:(i:Int)<(n:Int):=by omega
   obtain ⟨g,gcur,rfl,rg,g0,g1,g2⟩:=UAt.at (UAt.below HP.out hB) hlt'
   rw [← hx] at g0 g1 g2
   clear hx
   have Fg:∀ X,Row X g (.cells gcur 70)→(g<X.heap.size∧X.cell? ⟨g,i * 3,none⟩=some (.int .i64 x.s)∧X.cell? ⟨g,i * 3+1,none⟩=some (.string x.a)∧X.cell? ⟨g,i * 3+2,none⟩=some (.string x.b)):=fun X h=>⟨h.1,Row.cell_at h _ g0,Row.cell_at h _ g1,Row.cell_at h _ g2⟩
   have sg:=Fg _ rg
   unfold uV at H
   obtain ⟨b,hb⟩:∃ b,b=P i:=⟨_,rfl⟩
   rw [← hb] at H
   have HN:=Lib.hid hn
   have HHB:=Lib.hid hb
   clear h hb hn
   cases b
   ·go_wp2_with fail
    go_wp2_with (go_at_fn G;refine (H _ hB).mono ?_;rintro e W1 ⟨rfl,h1⟩;have stp:=St1 hB h1 rg;clear hB h1 rg sg;obtain ⟨hB,rg⟩:=stp;have sg:=Fg _ rg)
    go_wp2
    go_roundw
    case rel=>exact ⟨i+1,by go_num,by omega,fun j hj=>by rcases Nat.lt_succ_iff_lt_or_eq.1 hj with h | h;(· exact hall j h);(· subst h;exact HHB.out.symm),BW⟩
    case measure=>simp [RowKit.intOf];omega
   ·go_wp2_with fail
    go_wp2_with (go_at_fn G;refine (H _ hB).mono ?_;rintro e W1 ⟨rfl,h1⟩;have stp:=St1 hB h1 rg;clear hB h1 rg sg;obtain ⟨hB,rg⟩:=stp;have sg:=Fg _ rg)
    go_wp2
    go_ret
    exact ⟨(i:Int),rfl,.inr ⟨i,rfl,hlt,HHB.out.symm⟩,hB⟩
  ·obtain rfl:i=n:=by omega
   go_wp2
   go_ret
   exact ⟨-1,rfl,.inl ⟨rfl,hall⟩,hB⟩
theorem scontains {l:List RT} (P:Nat→Bool) (G:FuncId) (eg:∀ args w,(callFunc G args).run Tryz.prog w = .ok (.enter G args) w) (p:Option Addr) (n c:Nat) (hn:l.length=n) (hn1:n≤1000000) (w:World) (hp:UAt 70 w p l) (h:∀ i,i<n→∀ W,Below w.heap.size w W→Calls Tryz.prog G #[uV (uD l i)] W (BoolOk (P i) W)):Calls Tryz.prog 101 #[.slice p n c,.func (.func G) #[] #[]] w (BoolOk (decide (∃ i,i<n∧P i=true)) w):=by
 have H:=sindex P G eg p n c hn hn1 w hp h
 clear h hp eg
 unfold BoolOk
 generalize hd:decide (∃ i,i<n∧P i=true)=b
 go_enter Tryz.func101, Tryz.ntmps101
 go_wp2_with fail
 refine H.mono ?_
 rintro e W ⟨r,rfl,hr,h1⟩
 have hb:decide (0≤r)=b:=by
  rw [← hd]
  rcases hr with ⟨rfl,hall⟩ | ⟨i,rfl,hi,hP⟩
  ·exact (decide_eq_false (fun ⟨i,hi,h⟩=>by rw [hall i hi] at h;cases h)).symm
  ·exact (decide_eq_true (by omega)).trans (decide_eq_true ⟨i,hi,hP⟩).symm
 clear hr hd
 have HH:=Lib.hid hb
 go_wp2
 go_ret
 exact ⟨rfl,h1⟩
theorem scindex {l:List RT} (P:Nat→Bool) (G:FuncId) (q:Value) (eg:∀ args w,(callFunc G args).run Tryz.prog w = .ok (.enter G args) w) (p:Option Addr) (n c:Nat) (hn:l.length=n) (hn1:n≤1000000) (w:World) (hp:UAt 70 w p l) (h:∀ i,i<n→∀ W,Below w.heap.size w W→Calls Tryz.prog G #[uV (uD l i),q] W (BoolOk (P i) W)):Calls Tryz.prog 167 #[.slice p n c,.func (.func G) #[] #[q]] w (fun e w'=>∃ r:Int,e = .returned (.int .i64 r)∧((r = -1∧∀ j,j<n→P j=false)∨∃ i:Nat,r=(i:Int)∧i<n∧P i=true)∧Below w.heap.size w w'):=by
 have hB:Below w.heap.size w w:=Below.refl _ _
 have HP:=Lib.hid hp
 clear hp
 have hnI:(n:Int)≤1000000:=by omega
 go_enter Tryz.func167, Tryz.ntmps167
 go_wp2_with fail
 go_loopw [8] (fun v8 wr=>∃ i:Nat,v8 = .int .i64 (i:Int)∧i≤n∧(∀ j,j<i→P j=false)∧Below w.heap.size w wr) (fun v8 _=>(n - RowKit.intOf v8).toNat)
 case atStart=>exact ⟨0,rfl,by omega,fun j hj=>absurd hj (by omega),hB⟩
 case round =>
  clear hB
  obtain ⟨i,rfl,hin,hall,hB⟩:=hrel
  rcases Nat.lt_or_ge i n with hlt | hge
  ·have hlt':i<l.length:=by rw [hn];exact hlt
   have H:=fun W hB=>h i hlt W hB
   obtain ⟨x,hx⟩:∃ x,x=uD l i:=⟨_,rfl⟩
   rw [← hx] at H
   have hlI:(i:Int)<(n:Int):=by omega
   obtain ⟨g,gcur,rfl,rg,g0,g1,g2⟩:=UAt.at (UAt.below HP.out hB) hlt'
   rw [← hx] at g0 g1 g2
   clear hx
   have Fg:∀ X,Row X g (.cells gcur 70)→(g<X.heap.size∧X.cell? ⟨g,i * 3,none⟩=some (.int .i64 x.s)∧X.cell? ⟨g,i * 3+1,none⟩=some (.string x.a)∧X.cell? ⟨g,i * 3+2,none⟩=some (.string x.b)):=fun X h=>⟨h.1,Row.cell_at h _ g0,Row.cell_at h _ g1,Row.cell_at h _ g2⟩
   have sg:=Fg _ rg
   unfold uV at H
   obtain ⟨b,hb⟩:∃ b,b=P i:=⟨_,rfl⟩
   rw [← hb] at H
   have HN:=Lib.hid hn
   have HHB:=Lib.hid hb
   clear h hb hn
   cases b
   ·go_wp2_with fail
    go_wp2_with (go_at_fn G;refine (H _ hB).mono ?_;rintro e W1 ⟨rfl,h1⟩;have stp:=St1 hB h1 rg;clear hB h1 rg sg;obtain ⟨hB,rg⟩:=stp;have sg:=Fg _ rg)
    go_wp2
    go_roundw
    case rel=>exact ⟨i+1,by go_num,by omega,fun j hj=>by rcases Nat.lt_succ_iff_lt_or_eq.1 hj with h | h;(· exact hall j h);(· subst h;exact HHB.out.symm),BW⟩
    case measure=>simp [RowKit.intOf];omega
   ·go_wp2_with fail
    go_wp2_with (go_at_fn G;refine (H _ hB).mono ?_;rintro e W1 ⟨rfl,h1⟩;have stp:=St1 hB h1 rg;clear hB h1 rg sg;obtain ⟨hB,rg⟩:=stp;have sg:=Fg _ rg)
    go_wp2
    go_ret
    exact ⟨(i:Int),rfl,.inr ⟨i,rfl,hlt,HHB.out.symm⟩,hB⟩
  ·obtain rfl:i=n:=by omega
   go_wp2
   go_ret
   exact ⟨-1,rfl,.inl ⟨rfl,hall⟩,hB⟩
theorem sccontains {l:List RT} (P:Nat→Bool) (G:FuncId) (q:Value) (eg:∀ args w,(callFunc G args).run Tryz.prog w = .ok (.enter G args) w) (p:Option Addr) (n c:Nat) (hn:l.length=n) (hn1:n≤1000000) (w:World) (hp:UAt 70 w p l) (h:∀ i,i<n→∀ W,Below w.heap.size w W→Calls Tryz.prog G #[uV (uD l i),q] W (BoolOk (P i) W)):Calls Tryz.prog 101 #[.slice p n c,.func (.func G) #[] #[q]] w (BoolOk (decide (∃ i,i<n∧P i=true)) w):=by
 have H:=scindex P G q eg p n c hn hn1 w hp h
 clear h hp eg
 unfold BoolOk
 generalize hd:decide (∃ i,i<n∧P i=true)=b
 go_enter Tryz.func101, Tryz.ntmps101
 go_wp2_with fail
 refine H.mono ?_
 rintro e W ⟨r,rfl,hr,h1⟩
 have hb:decide (0≤r)=b:=by
  rw [← hd]
  rcases hr with ⟨rfl,hall⟩ | ⟨i,rfl,hi,hP⟩
  ·exact (decide_eq_false (fun ⟨i,hi,h⟩=>by rw [hall i hi] at h;cases h)).symm
  ·exact (decide_eq_true (by omega)).trans (decide_eq_true ⟨i,hi,hP⟩).symm
 clear hr hd
 have HH:=Lib.hid hb
 go_wp2
 go_ret
 exact ⟨rfl,h1⟩
end Go.Proofs.YtnokpldomlmamaaGreatDoor
