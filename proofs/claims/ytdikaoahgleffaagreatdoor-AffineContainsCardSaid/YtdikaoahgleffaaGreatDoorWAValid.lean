/-
 Package affine: must, and the arithmetic of numbers, where nothing is too large. slices.IndexFunc and slices.ContainsFunc over slices of terms and of sources. Package affine: areSources, isBetween, Valid, whatever the strings and the numbers of sources.
-/
import Derived.Test.YtdikaoahgleffaaGreatDoorWACompute
import Derived.Test.YtdikaoahgleffaaGreatDoorWEHull
import Derived.Test.YtdikaoahgleffaaGreatDoorWEValid
set_option linter.unusedSimpArgs false
set_option linter.unusedVariables false
set_option maxRecDepth 100000
set_option maxHeartbeats 16000000
namespace Go.Proofs.YtdikaoahgleffaaGreatDoor
open Go Go.RowKit Go.Lib Go.Shelf
theorem amust (q:Rat) (w:World):Calls Tryz.prog 63 #[Q q,.int .i64 0] w (QIs q w):=by
 have hB:Below w.heap.size w w:=Below.refl _ _;unfold QIs Q;go_enter Tryz.func63, Tryz.ntmps63;go_wp2_with fail;have d0_o:w.heap.size≤w.heap.size+1:=by have:=hB.size;omega
 have sB:=hB.size;refine world_cut (fun X=>Below w.heap.size w X∧Row X w.heap.size (oR q)∧Row X (w.heap.size+1) oR0) ⟨BW,RWh,RWh⟩ ?_;clear hB sB;rintro V1 ⟨hB,rx,ro⟩;have sx:=RF2 rx;have so:=RFz2 ro;refine (acheck_true _).mono ?_;rintro e W2 ⟨rfl,h1⟩;have stp:=St2 hB h1 rx ro;clear hB h1 rx sx ro so;obtain ⟨hB,rx,ro⟩:=stp;have sx:=RF2 rx;have so:=RFz2 ro;go_wp2_with fail;have sB:=hB.size;refine post_cut (fun X=>Below w.heap.size w X∧Row X (w.heap.size+1) (oR q)) ⟨BW,RWh⟩ ?_;clear rx sx ro so hB sB;rintro V3 ⟨hB,ro⟩;have so:=RFz2 ro;refine bodyPost_ret (v := .agg #[.string (S q.num),.string (S (q.den:Int))]) ?res rfl ⟨rfl,hB⟩
 case res=>simp [results,Tryz.results63, go_sem,so]
theorem nadd {a b:Rat} (h:AF a b) (w:World) (he:Env w):Calls Tryz.prog 47 #[Q a,Q b] w (QIs (a+b) w):=by
 have hB:Below w.heap.size w w:=Below.refl _ _;have M:=fun W (H:Env W)=>qaddF h W H
 have MM:=fun W=>amust (a+b) W
 unfold QOk Q at M;unfold QIs Q at *;generalize a+b=q at *;clear h;go_enter Tryz.func47, Tryz.ntmps47;go_wp2_with fail;have d0_o:w.heap.size≤w.heap.size+1+1:=by have:=hB.size;omega
 have sB:=hB.size;refine world_cut (fun X=>Below w.heap.size w X∧Row X (w.heap.size+1+1) oN0) ⟨BW,RWh⟩ ?_;clear hB sB;rintro V1 ⟨hB,ro⟩;have so:=RFz2 ro;refine (M _ (he.below hB)).mono ?_;rintro e W2 ⟨rfl,h1⟩;have stp:=St1 hB h1 ro;clear hB h1 ro so;obtain ⟨hB,ro⟩:=stp;have so:=RFz2 ro;go_wp2_with fail;refine (MM _).mono ?_;rintro e W3 ⟨rfl,h1⟩;have stp:=St1 hB h1 ro;clear hB h1 ro so;obtain ⟨hB,ro⟩:=stp;have so:=RFz2 ro;go_wp2_with fail;have sB:=hB.size;refine post_cut (fun X=>Below w.heap.size w X∧Row X (w.heap.size+1+1) (oN q)) ⟨BW,RWh⟩ ?_;clear ro so hB sB;rintro V4 ⟨hB,ro⟩;have so:=RFz2 ro;refine bodyPost_ret (v := .agg #[.string (S q.num),.string (S (q.den:Int))]) ?res rfl ⟨rfl,hB⟩
 case res=>simp [results,Tryz.results47, go_sem,so]
theorem nsub {a b:Rat} (h:SF a b) (w:World) (he:Env w):Calls Tryz.prog 65 #[Q a,Q b] w (QIs (a - b) w):=by
 have hB:Below w.heap.size w w:=Below.refl _ _;have M:=fun W (H:Env W)=>qsubF h W H
 have MM:=fun W=>amust (a - b) W
 unfold QOk Q at M;unfold QIs Q at *;generalize a - b=q at *;clear h;go_enter Tryz.func65, Tryz.ntmps65;go_wp2_with fail;have d0_o:w.heap.size≤w.heap.size+1+1:=by have:=hB.size;omega
 have sB:=hB.size;refine world_cut (fun X=>Below w.heap.size w X∧Row X (w.heap.size+1+1) oN0) ⟨BW,RWh⟩ ?_;clear hB sB;rintro V1 ⟨hB,ro⟩;have so:=RFz2 ro;refine (M _ (he.below hB)).mono ?_;rintro e W2 ⟨rfl,h1⟩;have stp:=St1 hB h1 ro;clear hB h1 ro so;obtain ⟨hB,ro⟩:=stp;have so:=RFz2 ro;go_wp2_with fail;refine (MM _).mono ?_;rintro e W3 ⟨rfl,h1⟩;have stp:=St1 hB h1 ro;clear hB h1 ro so;obtain ⟨hB,ro⟩:=stp;have so:=RFz2 ro;go_wp2_with fail;have sB:=hB.size;refine post_cut (fun X=>Below w.heap.size w X∧Row X (w.heap.size+1+1) (oN q)) ⟨BW,RWh⟩ ?_;clear ro so hB sB;rintro V4 ⟨hB,ro⟩;have so:=RFz2 ro;refine bodyPost_ret (v := .agg #[.string (S q.num),.string (S (q.den:Int))]) ?res rfl ⟨rfl,hB⟩
 case res=>simp [results,Tryz.results65, go_sem,so]
theorem nmul {a b:Rat} (h:MF a b) (w:World) (he:Env w):Calls Tryz.prog 46 #[Q a,Q b] w (QIs (a * b) w):=by
 have hB:Below w.heap.size w w:=Below.refl _ _;have M:=fun W (H:Env W)=>qmulF h W H
 have MM:=fun W=>amust (a * b) W
 unfold QOk Q at M;unfold QIs Q at *;generalize a * b=q at *;clear h;go_enter Tryz.func46, Tryz.ntmps46;go_wp2_with fail;have d0_o:w.heap.size≤w.heap.size+1+1:=by have:=hB.size;omega
 have sB:=hB.size;refine world_cut (fun X=>Below w.heap.size w X∧Row X (w.heap.size+1+1) oN0) ⟨BW,RWh⟩ ?_;clear hB sB;rintro V1 ⟨hB,ro⟩;have so:=RFz2 ro;refine (M _ (he.below hB)).mono ?_;rintro e W2 ⟨rfl,h1⟩;have stp:=St1 hB h1 ro;clear hB h1 ro so;obtain ⟨hB,ro⟩:=stp;have so:=RFz2 ro;go_wp2_with fail;refine (MM _).mono ?_;rintro e W3 ⟨rfl,h1⟩;have stp:=St1 hB h1 ro;clear hB h1 ro so;obtain ⟨hB,ro⟩:=stp;have so:=RFz2 ro;go_wp2_with fail;have sB:=hB.size;refine post_cut (fun X=>Below w.heap.size w X∧Row X (w.heap.size+1+1) (oN q)) ⟨BW,RWh⟩ ?_;clear ro so hB sB;rintro V4 ⟨hB,ro⟩;have so:=RFz2 ro;refine bodyPost_ret (v := .agg #[.string (S q.num),.string (S (q.den:Int))]) ?res rfl ⟨rfl,hB⟩
 case res=>simp [results,Tryz.results46, go_sem,so]
theorem ndiv {a b:Rat} (h:DF a b) (w:World) (he:Env w):Calls Tryz.prog 57 #[Q a,Q b] w (QIs (a / b) w):=by
 have hB:Below w.heap.size w w:=Below.refl _ _;have M:=fun W (H:Env W)=>qdivF h W H
 have MM:=fun W=>amust (a / b) W
 unfold QOk Q at M;unfold QIs Q at *;generalize a / b=q at *;clear h;go_enter Tryz.func57, Tryz.ntmps57;go_wp2_with fail;have d0_o:w.heap.size≤w.heap.size+1+1:=by have:=hB.size;omega
 have sB:=hB.size;refine world_cut (fun X=>Below w.heap.size w X∧Row X (w.heap.size+1+1) oN0) ⟨BW,RWh⟩ ?_;clear hB sB;rintro V1 ⟨hB,ro⟩;have so:=RFz2 ro;refine (M _ (he.below hB)).mono ?_;rintro e W2 ⟨rfl,h1⟩;have stp:=St1 hB h1 ro;clear hB h1 ro so;obtain ⟨hB,ro⟩:=stp;have so:=RFz2 ro;go_wp2_with fail;refine (MM _).mono ?_;rintro e W3 ⟨rfl,h1⟩;have stp:=St1 hB h1 ro;clear hB h1 ro so;obtain ⟨hB,ro⟩:=stp;have so:=RFz2 ro;go_wp2_with fail;have sB:=hB.size;refine post_cut (fun X=>Below w.heap.size w X∧Row X (w.heap.size+1+1) (oN q)) ⟨BW,RWh⟩ ?_;clear ro so hB sB;rintro V4 ⟨hB,ro⟩;have so:=RFz2 ro;refine bodyPost_ret (v := .agg #[.string (S q.num),.string (S (q.den:Int))]) ?res rfl ⟨rfl,hB⟩
 case res=>simp [results,Tryz.results57, go_sem,so]
theorem awhole {n:Int} {q:Rat} (hn:IsInt n) (hq:Rat.divInt n 1=q) (w:World) (he:Env w):Calls Tryz.prog 35 #[.int .i64 n] w (QIs q w):=by
 have hB:Below w.heap.size w w:=Below.refl _ _;have M:=fun W (H:Env W)=>qof hn (by decide:IsInt 1) (by decide) W H
 rw [hq] at M;unfold QOk Q at M;unfold QIs Q at *;clear hn hq;go_enter Tryz.func35, Tryz.ntmps35;go_wp2_with fail;have d0_o:w.heap.size≤w.heap.size:=by have:=hB.size;omega
 have sB:=hB.size;refine world_cut (fun X=>Below w.heap.size w X∧Row X w.heap.size oN0) ⟨BW,RWh⟩ ?_;clear hB sB;rintro V1 ⟨hB,ro⟩;have so:=RFz2 ro;refine (M _ (he.below hB)).mono ?_;rintro e W2 ⟨rfl,h1⟩;have stp:=St1 hB h1 ro;clear hB h1 ro so;obtain ⟨hB,ro⟩:=stp;have so:=RFz2 ro;go_wp2_with fail;have sB:=hB.size;refine post_cut (fun X=>Below w.heap.size w X∧Row X w.heap.size (oN q)) ⟨BW,RWh⟩ ?_;clear ro so hB sB;rintro V3 ⟨hB,ro⟩;have so:=RFz2 ro;refine bodyPost_ret (v := .agg #[.string (S q.num),.string (S (q.den:Int))]) ?res rfl ⟨rfl,hB⟩
 case res=>simp [results,Tryz.results35, go_sem,so]
theorem whole0:Rat.divInt 0 1=0:=by decide +kernel
theorem dig0:QDig 200 0:=⟨by unfold Dig;decide,by unfold Dig;decide⟩
/-! A number's fields. -/
theorem fnum (x y:ByteArray) (W:World):(Instr.field 67 (.agg #[.string x,.string y]) 0).run Tryz.prog W = .ok (.agg #[.string x,.string y]) W:=by kernel_rfl
theorem frat0 (x y:ByteArray) (W:World):(Instr.field 27 (.agg #[.string x,.string y]) 0).run Tryz.prog W = .ok (.string x) W:=by kernel_rfl
theorem nsign {a:Rat} (ha:QDig 200 a) (w:World) (he:Env w):Calls Tryz.prog 54 #[Q a] w (CmpOk (cmpQ a 0) w):=by
 have hB:Below w.heap.size w w:=Below.refl _ _;have FN:=fnum;have M0:=fun W (H:Env W)=>awhole (n:=0) (by decide) whole0 W H
 have M:=fun W (H:Env W)=>qcompare a 0 ha dig0 W H
 unfold CmpOk at *;unfold QIs at M0;unfold Q at *;generalize cmpQ a 0=c at *;generalize (0:Rat)=z at *;clear ha;go_enter Tryz.func54, Tryz.ntmps54;go_wp2_with fail;have sB:=hB.size;refine wp_cut (fun X=>Below w.heap.size w X∧Row X w.heap.size (oN a)) ⟨BW,RWh⟩ ?_;clear hB sB;rintro V1 ⟨hB,rx⟩;have sx:=RF2 rx;refine wp_region_vals [.pointer (some ⟨w.heap.size,0,none⟩),.agg #[.string (S a.num),.string (S (a.den:Int))],.agg #[.string (S z.num),.string (S (z.den:Int))],.agg #[.string (S z.num),.string (S (z.den:Int))],.int .i64 c,.int .i64 c] (by kernel_rfl) (by kernel_rfl) rfl (allVals.cons qv0 (allVals.cons (qv1 fun X h=>RF2 (Row.below rx h)) (allVals.cons (qv2 fun X h=>M0 X (he.below (hB.trans (h.mono hB.size)))) (allVals.cons (qvf FN) (allVals.cons (qv2 fun X h=>M X (he.below (hB.trans (h.mono hB.size)))) (allVals.cons qv0 trivial)))))) ?_;rintro W h1;have stp:=St1 hB h1 rx;clear hB h1 rx sx;obtain ⟨hB,rx⟩:=stp;have sx:=RF2 rx;simp only [setVals,List.setIfInBounds_toArray,List.set_cons_succ,List.set_cons_zero];go_wp2;go_ret;exact ⟨rfl,hB⟩
theorem nzero_yes {a:Rat} (h:a=0) (w:World) (he:Env w):Calls Tryz.prog 75 #[Q a] w (BoolOk true w):=by
 have hB:Below w.heap.size w w:=Below.refl _ _;have FN:=fnum;have FR:=frat0;have M0:=fun W (H:Env W)=>awhole (n:=0) (by decide) whole0 W H
 have h2:((S a.num).toList == (S (0:Rat).num).toList)=true:=by subst h;simp
 unfold BoolOk;unfold QIs at M0;unfold Q at *;clear h;generalize (0:Rat)=z at *;go_enter Tryz.func75, Tryz.ntmps75;go_wp2_with fail;have sB:=hB.size;refine wp_cut (fun X=>Below w.heap.size w X∧Row X w.heap.size (oN a)) ⟨BW,RWh⟩ ?_;clear hB sB;rintro V1 ⟨hB,rx⟩;have sx:=RF2 rx;refine wp_region_vals [.pointer (some ⟨w.heap.size,0,none⟩),.pointer (some ⟨w.heap.size,0,none⟩),.string (S a.num),.agg #[.string (S z.num),.string (S (z.den:Int))],.agg #[.string (S z.num),.string (S (z.den:Int))],.string (S z.num),.bool true,.bool true] (by kernel_rfl) (by kernel_rfl) rfl (allVals.cons qv0 (allVals.cons qv0 (allVals.cons (qv1 fun X h=>RF2 (Row.below rx h)) (allVals.cons (qv2 fun X h=>M0 X (he.below (hB.trans (h.mono hB.size)))) (allVals.cons (qvf FN) (allVals.cons (qvf FR) (allVals.cons (qvf h2) (allVals.cons qv0 trivial)))))))) ?_;rintro W h1;have stp:=St1 hB h1 rx;clear hB h1 rx sx;obtain ⟨hB,rx⟩:=stp;have sx:=RF2 rx;simp only [setVals,List.setIfInBounds_toArray,List.set_cons_succ,List.set_cons_zero];go_wp2;go_ret;exact ⟨rfl,hB⟩
theorem nzero_no {a:Rat} (h:a≠0) (w:World) (he:Env w):Calls Tryz.prog 75 #[Q a] w (BoolOk false w):=by
 have hB:Below w.heap.size w w:=Below.refl _ _;have FN:=fnum;have FR:=frat0;have M0:=fun W (H:Env W)=>awhole (n:=0) (by decide) whole0 W H
 have h2:((S a.num).toList == (S (0:Rat).num).toList)=false:=S_ne (fun e=>h (Rat.num_eq_zero.1 e));unfold BoolOk;unfold QIs at M0;unfold Q at *;clear h;generalize (0:Rat)=z at *;go_enter Tryz.func75, Tryz.ntmps75;go_wp2_with fail;have sB:=hB.size;refine wp_cut (fun X=>Below w.heap.size w X∧Row X w.heap.size (oN a)) ⟨BW,RWh⟩ ?_;clear hB sB;rintro V1 ⟨hB,rx⟩;have sx:=RF2 rx;refine wp_region_vals [.pointer (some ⟨w.heap.size,0,none⟩),.pointer (some ⟨w.heap.size,0,none⟩),.string (S a.num),.agg #[.string (S z.num),.string (S (z.den:Int))],.agg #[.string (S z.num),.string (S (z.den:Int))],.string (S z.num),.bool false,.bool false] (by kernel_rfl) (by kernel_rfl) rfl (allVals.cons qv0 (allVals.cons qv0 (allVals.cons (qv1 fun X h=>RF2 (Row.below rx h)) (allVals.cons (qv2 fun X h=>M0 X (he.below (hB.trans (h.mono hB.size)))) (allVals.cons (qvf FN) (allVals.cons (qvf FR) (allVals.cons (qvf h2) (allVals.cons qv0 trivial)))))))) ?_;rintro W h1;have stp:=St1 hB h1 rx;clear hB h1 rx sx;obtain ⟨hB,rx⟩:=stp;have sx:=RF2 rx;simp only [setVals,List.setIfInBounds_toArray,List.set_cons_succ,List.set_cons_zero];go_wp2;go_ret;exact ⟨rfl,hB⟩
theorem nzero (a:Rat) (w:World) (he:Env w):Calls Tryz.prog 75 #[Q a] w (BoolOk (decide (a=0)) w):=by
 by_cases h:a=0
 ·rw [decide_eq_true h];exact nzero_yes h w he
 ·rw [decide_eq_false h];exact nzero_no h w he
theorem nabs_pos {a:Rat} (ha:QDig 200 a) (h:0≤a) (w:World) (he:Env w):Calls Tryz.prog 118 #[Q a] w (QIs (absQ a) w):=by
 have hB:Below w.heap.size w w:=Below.refl _ _;have M:=fun W (H:Env W)=>nsign ha W H
 unfold CmpOk at M;have hc:0≤cmpQ a 0:=cmpQ_ge.2 h;rw [absQ_pos h];unfold QIs;unfold Q at *;generalize cmpQ a 0=g at *;have hd:decide (g<0)=false:=decide_eq_false (by omega);clear hc h ha;go_enter Tryz.func118, Tryz.ntmps118;go_wp2_with fail;have d0_o:w.heap.size≤w.heap.size+1:=by have:=hB.size;omega
 have sB:=hB.size;refine world_cut (fun X=>Below w.heap.size w X∧Row X w.heap.size (oN a)∧Row X (w.heap.size+1) oN0) ⟨BW,RWh,RWh⟩ ?_;clear hB sB;rintro V1 ⟨hB,rx,ro⟩;have sx:=RF2 rx;have so:=RFz2 ro;refine (M _ (he.below hB)).mono ?_;rintro e W2 ⟨rfl,h1⟩;have stp:=St2 hB h1 rx ro;clear hB h1 rx sx ro so;obtain ⟨hB,rx,ro⟩:=stp;have sx:=RF2 rx;have so:=RFz2 ro;go_wp2_with fail;have sB:=hB.size;refine post_cut (fun X=>Below w.heap.size w X∧Row X (w.heap.size+1) (oN a)) ⟨BW,RWh⟩ ?_;clear rx sx ro so hB sB;rintro V3 ⟨hB,ro⟩;have so:=RFz2 ro;refine bodyPost_ret (v := .agg #[.string (S a.num),.string (S (a.den:Int))]) ?res rfl ⟨rfl,hB⟩
 case res=>simp [results,Tryz.results118, go_sem,so]
theorem nabs_neg {a:Rat} (ha:QDig 200 a) (h:a<0) (w:World) (he:Env w):Calls Tryz.prog 118 #[Q a] w (QIs (absQ a) w):=by
 have hB:Below w.heap.size w w:=Below.refl _ _;have M:=fun W (H:Env W)=>nsign ha W H
 unfold CmpOk at M;have hc:cmpQ a 0<0:=cmpQ_lt.2 h;have M0:=fun W (H:Env W)=>awhole (n:=0) (by decide) whole0 W H
 have MS:=fun W (H:Env W)=>nsub (SF.neg ha) W H
 rw [absQ_neg h];unfold QIs at M0 MS;unfold QIs;unfold Q at *;generalize cmpQ a 0=g at *;have hd:decide (g<0)=true:=decide_eq_true (by omega);clear hc h ha;generalize 0 - a=y at *;generalize (0:Rat)=z at *;go_enter Tryz.func118, Tryz.ntmps118;go_wp2_with fail;have d0_o:w.heap.size≤w.heap.size+1:=by have:=hB.size;omega
 have sB:=hB.size;refine world_cut (fun X=>Below w.heap.size w X∧Row X w.heap.size (oN a)∧Row X (w.heap.size+1) oN0) ⟨BW,RWh,RWh⟩ ?_;clear hB sB;rintro V1 ⟨hB,rx,ro⟩;have sx:=RF2 rx;have so:=RFz2 ro;refine (M _ (he.below hB)).mono ?_;rintro e W2 ⟨rfl,h1⟩;have stp:=St2 hB h1 rx ro;clear hB h1 rx sx ro so;obtain ⟨hB,rx,ro⟩:=stp;have sx:=RF2 rx;have so:=RFz2 ro;go_wp2_with fail;refine wp_region_items 3 [.val (.agg #[.string (S z.num),.string (S (z.den:Int))]),.val (.agg #[.string (S a.num),.string (S (a.den:Int))]),.val (.agg #[.string (S y.num),.string (S (y.den:Int))])] (by kernel_rfl) (by kernel_rfl) trivial (allItems.cons (qi2 fun X h=>M0 X (he.below (hB.trans (h.mono hB.size)))) (allItems.cons (qi1 fun X h=>RF2 (Row.below rx h)) (allItems.cons (qi2 fun X h=>MS X (he.below (hB.trans (h.mono hB.size)))) trivial))) ?_;rintro W h1;have stp:=St2 hB h1 rx ro;clear hB h1 rx sx ro so;obtain ⟨hB,rx,ro⟩:=stp;have sx:=RF2 rx;have so:=RFz2 ro;simp only [setItems,List.setIfInBounds_toArray,List.set_cons_succ,List.set_cons_zero,List.take_succ_cons,List.take_zero,List.drop_succ_cons,List.drop_zero];go_wp2_with fail;have sB:=hB.size;refine post_cut (fun X=>Below w.heap.size w X∧Row X (w.heap.size+1) (oN y)) ⟨BW,RWh⟩ ?_;clear rx sx ro so hB sB;rintro V3 ⟨hB,ro⟩;have so:=RFz2 ro;refine bodyPost_ret (v := .agg #[.string (S y.num),.string (S (y.den:Int))]) ?res rfl ⟨rfl,hB⟩
 case res=>simp [results,Tryz.results118, go_sem,so]
theorem nabs {a:Rat} (ha:QDig 200 a) (w:World) (he:Env w):Calls Tryz.prog 118 #[Q a] w (QIs (absQ a) w):=by
 by_cases h:a<0
 ·exact nabs_neg ha h w he
 ·exact nabs_pos ha (by grind) w he
end Go.Proofs.YtdikaoahgleffaaGreatDoor
namespace Go.Proofs.YtdikaoahgleffaaGreatDoor
open Go Go.RowKit Go.Lib Go.Shelf
def uV (t:RT):Value := .agg #[.int .i64 t.s,.string t.a,.string t.b]
theorem tindex {l:List RT} (P:Nat→Bool) (G:FuncId) (eg:∀ args w,(callFunc G args).run Tryz.prog w = .ok (.enter G args) w) (p:Option Addr) (n c:Nat) (hn:l.length=n) (hn1:n≤1000000) (w:World) (hp:UAt 55 w p l) (h:∀ i,i<n→∀ W,Below w.heap.size w W→Calls Tryz.prog G #[uV (uD l i)] W (BoolOk (P i) W)):Calls Tryz.prog 123 #[.slice p n c,.func (.func G) #[] #[]] w (fun e w'=>∃ r:Int,e = .returned (.int .i64 r)∧((r = -1∧∀ j,j<n→P j=false)∨∃ i:Nat,r=(i:Int)∧i<n∧P i=true)∧Below w.heap.size w w'):=by
 have hB:Below w.heap.size w w:=Below.refl _ _;have HP:=Lib.hid hp;clear hp;have hnI:(n:Int)≤1000000:=by omega
 go_enter Tryz.func123, Tryz.ntmps123;go_wp2_with fail;go_loopw [8] (fun v8 wr=>∃ i:Nat,v8 = .int .i64 (i:Int)∧i≤n∧(∀ j,j<i→P j=false)∧Below w.heap.size w wr) (fun v8 _=>(n - RowKit.intOf v8).toNat)
 case atStart=>exact ⟨0,rfl,by omega,fun j hj=>absurd hj (by omega),hB⟩
 case round =>
  clear hB;obtain ⟨i,rfl,hin,hall,hB⟩:=hrel;rcases Nat.lt_or_ge i n with hlt | hge
  ·have hlt':i<l.length:=by rw [hn];exact hlt
   have H:=fun W hB=>h i hlt W hB
   obtain ⟨x,hx⟩:∃ x,x=uD l i:=⟨_,rfl⟩
   rw [← hx] at H;have hlI:(i:Int)<(n:Int):=by omega
   obtain ⟨g,gcur,rfl,rg,g0,g1,g2⟩:=UAt.at (UAt.below HP.out hB) hlt';rw [← hx] at g0 g1 g2;clear hx;have Fg:∀ X,Row X g (.cells gcur 55)→(g<X.heap.size∧X.cell? ⟨g,i * 3,none⟩=some (.int .i64 x.s)∧X.cell? ⟨g,i * 3+1,none⟩=some (.string x.a)∧X.cell? ⟨g,i * 3+2,none⟩=some (.string x.b)):=fun X h=>⟨h.1,Row.cell_at h _ g0,Row.cell_at h _ g1,Row.cell_at h _ g2⟩
   have sg:=Fg _ rg;unfold uV at H;obtain ⟨b,hb⟩:∃ b,b=P i:=⟨_,rfl⟩
   rw [← hb] at H;have HN:=Lib.hid hn;have HHB:=Lib.hid hb;clear h hb hn
   cases b
   ·go_wp2_with fail;go_wp2_with (go_at_fn G;refine (H _ hB).mono ?_;rintro e W1 ⟨rfl,h1⟩;have stp:=St1 hB h1 rg;clear hB h1 rg sg;obtain ⟨hB,rg⟩:=stp;have sg:=Fg _ rg);go_wp2;go_roundw
    case rel=>exact ⟨i+1,by go_num,by omega,fun j hj=>by rcases Nat.lt_succ_iff_lt_or_eq.1 hj with h | h;(· exact hall j h);(· subst h;exact HHB.out.symm),BW⟩
    case measure=>simp [RowKit.intOf];omega
   ·go_wp2_with fail;go_wp2_with (go_at_fn G;refine (H _ hB).mono ?_;rintro e W1 ⟨rfl,h1⟩;have stp:=St1 hB h1 rg;clear hB h1 rg sg;obtain ⟨hB,rg⟩:=stp;have sg:=Fg _ rg);go_wp2;go_ret;exact ⟨(i:Int),rfl,.inr ⟨i,rfl,hlt,HHB.out.symm⟩,hB⟩
  ·obtain rfl:i=n:=by omega
   go_wp2;go_ret;exact ⟨-1,rfl,.inl ⟨rfl,hall⟩,hB⟩
theorem tcontains {l:List RT} (P:Nat→Bool) (G:FuncId) (eg:∀ args w,(callFunc G args).run Tryz.prog w = .ok (.enter G args) w) (p:Option Addr) (n c:Nat) (hn:l.length=n) (hn1:n≤1000000) (w:World) (hp:UAt 55 w p l) (h:∀ i,i<n→∀ W,Below w.heap.size w W→Calls Tryz.prog G #[uV (uD l i)] W (BoolOk (P i) W)):Calls Tryz.prog 72 #[.slice p n c,.func (.func G) #[] #[]] w (BoolOk (decide (∃ i,i<n∧P i=true)) w):=by
 have H:=tindex P G eg p n c hn hn1 w hp h;clear h hp eg;unfold BoolOk;generalize hd:decide (∃ i,i<n∧P i=true)=b;go_enter Tryz.func72, Tryz.ntmps72;go_wp2_with fail;refine H.mono ?_;rintro e W ⟨r,rfl,hr,h1⟩;have hb:decide (0≤r)=b:=by
  rw [← hd];rcases hr with ⟨rfl,hall⟩ | ⟨i,rfl,hi,hP⟩
  ·exact (decide_eq_false (fun ⟨i,hi,h⟩=>by rw [hall i hi] at h;cases h)).symm
  ·exact (decide_eq_true (by omega)).trans (decide_eq_true ⟨i,hi,hP⟩).symm
 clear hr hd;have HH:=Lib.hid hb;go_wp2;go_ret;exact ⟨rfl,h1⟩
theorem sindex {l:List RT} (P:Nat→Bool) (G:FuncId) (eg:∀ args w,(callFunc G args).run Tryz.prog w = .ok (.enter G args) w) (p:Option Addr) (n c:Nat) (hn:l.length=n) (hn1:n≤1000000) (w:World) (hp:UAt 58 w p l) (h:∀ i,i<n→∀ W,Below w.heap.size w W→Calls Tryz.prog G #[uV (uD l i)] W (BoolOk (P i) W)):Calls Tryz.prog 129 #[.slice p n c,.func (.func G) #[] #[]] w (fun e w'=>∃ r:Int,e = .returned (.int .i64 r)∧((r = -1∧∀ j,j<n→P j=false)∨∃ i:Nat,r=(i:Int)∧i<n∧P i=true)∧Below w.heap.size w w'):=by
 have hB:Below w.heap.size w w:=Below.refl _ _;have HP:=Lib.hid hp;clear hp;have hnI:(n:Int)≤1000000:=by omega
 go_enter Tryz.func129, Tryz.ntmps129;go_wp2_with fail;go_loopw [8] (fun v8 wr=>∃ i:Nat,v8 = .int .i64 (i:Int)∧i≤n∧(∀ j,j<i→P j=false)∧Below w.heap.size w wr) (fun v8 _=>(n - RowKit.intOf v8).toNat)
 case atStart=>exact ⟨0,rfl,by omega,fun j hj=>absurd hj (by omega),hB⟩
 case round =>
  clear hB;obtain ⟨i,rfl,hin,hall,hB⟩:=hrel;rcases Nat.lt_or_ge i n with hlt | hge
  ·have hlt':i<l.length:=by rw [hn];exact hlt
   have H:=fun W hB=>h i hlt W hB
   obtain ⟨x,hx⟩:∃ x,x=uD l i:=⟨_,rfl⟩
   rw [← hx] at H;have hlI:(i:Int)<(n:Int):=by omega
   obtain ⟨g,gcur,rfl,rg,g0,g1,g2⟩:=UAt.at (UAt.below HP.out hB) hlt';rw [← hx] at g0 g1 g2;clear hx;have Fg:∀ X,Row X g (.cells gcur 58)→(g<X.heap.size∧X.cell? ⟨g,i * 3,none⟩=some (.int .i64 x.s)∧X.cell? ⟨g,i * 3+1,none⟩=some (.string x.a)∧X.cell? ⟨g,i * 3+2,none⟩=some (.string x.b)):=fun X h=>⟨h.1,Row.cell_at h _ g0,Row.cell_at h _ g1,Row.cell_at h _ g2⟩
   have sg:=Fg _ rg;unfold uV at H;obtain ⟨b,hb⟩:∃ b,b=P i:=⟨_,rfl⟩
   rw [← hb] at H;have HN:=Lib.hid hn;have HHB:=Lib.hid hb;clear h hb hn
   cases b
   ·go_wp2_with fail;go_wp2_with (go_at_fn G;refine (H _ hB).mono ?_;rintro e W1 ⟨rfl,h1⟩;have stp:=St1 hB h1 rg;clear hB h1 rg sg;obtain ⟨hB,rg⟩:=stp;have sg:=Fg _ rg);go_wp2;go_roundw
    case rel=>exact ⟨i+1,by go_num,by omega,fun j hj=>by rcases Nat.lt_succ_iff_lt_or_eq.1 hj with h | h;(· exact hall j h);(· subst h;exact HHB.out.symm),BW⟩
    case measure=>simp [RowKit.intOf];omega
   ·go_wp2_with fail;go_wp2_with (go_at_fn G;refine (H _ hB).mono ?_;rintro e W1 ⟨rfl,h1⟩;have stp:=St1 hB h1 rg;clear hB h1 rg sg;obtain ⟨hB,rg⟩:=stp;have sg:=Fg _ rg);go_wp2;go_ret;exact ⟨(i:Int),rfl,.inr ⟨i,rfl,hlt,HHB.out.symm⟩,hB⟩
  ·obtain rfl:i=n:=by omega
   go_wp2;go_ret;exact ⟨-1,rfl,.inl ⟨rfl,hall⟩,hB⟩
theorem scontains {l:List RT} (P:Nat→Bool) (G:FuncId) (eg:∀ args w,(callFunc G args).run Tryz.prog w = .ok (.enter G args) w) (p:Option Addr) (n c:Nat) (hn:l.length=n) (hn1:n≤1000000) (w:World) (hp:UAt 58 w p l) (h:∀ i,i<n→∀ W,Below w.heap.size w W→Calls Tryz.prog G #[uV (uD l i)] W (BoolOk (P i) W)):Calls Tryz.prog 81 #[.slice p n c,.func (.func G) #[] #[]] w (BoolOk (decide (∃ i,i<n∧P i=true)) w):=by
 have H:=sindex P G eg p n c hn hn1 w hp h;clear h hp eg;unfold BoolOk;generalize hd:decide (∃ i,i<n∧P i=true)=b;go_enter Tryz.func81, Tryz.ntmps81;go_wp2_with fail;refine H.mono ?_;rintro e W ⟨r,rfl,hr,h1⟩;have hb:decide (0≤r)=b:=by
  rw [← hd];rcases hr with ⟨rfl,hall⟩ | ⟨i,rfl,hi,hP⟩
  ·exact (decide_eq_false (fun ⟨i,hi,h⟩=>by rw [hall i hi] at h;cases h)).symm
  ·exact (decide_eq_true (by omega)).trans (decide_eq_true ⟨i,hi,hP⟩).symm
 clear hr hd;have HH:=Lib.hid hb;go_wp2;go_ret;exact ⟨rfl,h1⟩
theorem scindex {l:List RT} (P:Nat→Bool) (G:FuncId) (q:Value) (eg:∀ args w,(callFunc G args).run Tryz.prog w = .ok (.enter G args) w) (p:Option Addr) (n c:Nat) (hn:l.length=n) (hn1:n≤1000000) (w:World) (hp:UAt 58 w p l) (h:∀ i,i<n→∀ W,Below w.heap.size w W→Calls Tryz.prog G #[uV (uD l i),q] W (BoolOk (P i) W)):Calls Tryz.prog 129 #[.slice p n c,.func (.func G) #[] #[q]] w (fun e w'=>∃ r:Int,e = .returned (.int .i64 r)∧((r = -1∧∀ j,j<n→P j=false)∨∃ i:Nat,r=(i:Int)∧i<n∧P i=true)∧Below w.heap.size w w'):=by
 have hB:Below w.heap.size w w:=Below.refl _ _;have HP:=Lib.hid hp;clear hp;have hnI:(n:Int)≤1000000:=by omega
 go_enter Tryz.func129, Tryz.ntmps129;go_wp2_with fail;go_loopw [8] (fun v8 wr=>∃ i:Nat,v8 = .int .i64 (i:Int)∧i≤n∧(∀ j,j<i→P j=false)∧Below w.heap.size w wr) (fun v8 _=>(n - RowKit.intOf v8).toNat)
 case atStart=>exact ⟨0,rfl,by omega,fun j hj=>absurd hj (by omega),hB⟩
 case round =>
  clear hB;obtain ⟨i,rfl,hin,hall,hB⟩:=hrel;rcases Nat.lt_or_ge i n with hlt | hge
  ·have hlt':i<l.length:=by rw [hn];exact hlt
   have H:=fun W hB=>h i hlt W hB
   obtain ⟨x,hx⟩:∃ x,x=uD l i:=⟨_,rfl⟩
   rw [← hx] at H;have hlI:(i:Int)<(n:Int):=by omega
   obtain ⟨g,gcur,rfl,rg,g0,g1,g2⟩:=UAt.at (UAt.below HP.out hB) hlt';rw [← hx] at g0 g1 g2;clear hx;have Fg:∀ X,Row X g (.cells gcur 58)→(g<X.heap.size∧X.cell? ⟨g,i * 3,none⟩=some (.int .i64 x.s)∧X.cell? ⟨g,i * 3+1,none⟩=some (.string x.a)∧X.cell? ⟨g,i * 3+2,none⟩=some (.string x.b)):=fun X h=>⟨h.1,Row.cell_at h _ g0,Row.cell_at h _ g1,Row.cell_at h _ g2⟩
   have sg:=Fg _ rg;unfold uV at H;obtain ⟨b,hb⟩:∃ b,b=P i:=⟨_,rfl⟩
   rw [← hb] at H;have HN:=Lib.hid hn;have HHB:=Lib.hid hb;clear h hb hn
   cases b
   ·go_wp2_with fail;go_wp2_with (go_at_fn G;refine (H _ hB).mono ?_;rintro e W1 ⟨rfl,h1⟩;have stp:=St1 hB h1 rg;clear hB h1 rg sg;obtain ⟨hB,rg⟩:=stp;have sg:=Fg _ rg);go_wp2;go_roundw
    case rel=>exact ⟨i+1,by go_num,by omega,fun j hj=>by rcases Nat.lt_succ_iff_lt_or_eq.1 hj with h | h;(· exact hall j h);(· subst h;exact HHB.out.symm),BW⟩
    case measure=>simp [RowKit.intOf];omega
   ·go_wp2_with fail;go_wp2_with (go_at_fn G;refine (H _ hB).mono ?_;rintro e W1 ⟨rfl,h1⟩;have stp:=St1 hB h1 rg;clear hB h1 rg sg;obtain ⟨hB,rg⟩:=stp;have sg:=Fg _ rg);go_wp2;go_ret;exact ⟨(i:Int),rfl,.inr ⟨i,rfl,hlt,HHB.out.symm⟩,hB⟩
  ·obtain rfl:i=n:=by omega
   go_wp2;go_ret;exact ⟨-1,rfl,.inl ⟨rfl,hall⟩,hB⟩
theorem sccontains {l:List RT} (P:Nat→Bool) (G:FuncId) (q:Value) (eg:∀ args w,(callFunc G args).run Tryz.prog w = .ok (.enter G args) w) (p:Option Addr) (n c:Nat) (hn:l.length=n) (hn1:n≤1000000) (w:World) (hp:UAt 58 w p l) (h:∀ i,i<n→∀ W,Below w.heap.size w W→Calls Tryz.prog G #[uV (uD l i),q] W (BoolOk (P i) W)):Calls Tryz.prog 81 #[.slice p n c,.func (.func G) #[] #[q]] w (BoolOk (decide (∃ i,i<n∧P i=true)) w):=by
 have H:=scindex P G q eg p n c hn hn1 w hp h;clear h hp eg;unfold BoolOk;generalize hd:decide (∃ i,i<n∧P i=true)=b;go_enter Tryz.func81, Tryz.ntmps81;go_wp2_with fail;refine H.mono ?_;rintro e W ⟨r,rfl,hr,h1⟩;have hb:decide (0≤r)=b:=by
  rw [← hd];rcases hr with ⟨rfl,hall⟩ | ⟨i,rfl,hi,hP⟩
  ·exact (decide_eq_false (fun ⟨i,hi,h⟩=>by rw [hall i hi] at h;cases h)).symm
  ·exact (decide_eq_true (by omega)).trans (decide_eq_true ⟨i,hi,hP⟩).symm
 clear hr hd;have HH:=Lib.hid hb;go_wp2;go_ret;exact ⟨rfl,h1⟩
end Go.Proofs.YtdikaoahgleffaaGreatDoor
namespace Go.Proofs.YtdikaoahgleffaaGreatDoor
open Go Go.RowKit Go.Lib Go.Shelf
def SrcU (l:List RT):Prop:=∀ i,i<l.length→1≤(uD l i).s∧(uD l i).s≤1000000∧(0<i→(uD l (i - 1)).s<(uD l i).s)
instance (l:List RT):Decidable (SrcU l):=by unfold SrcU;infer_instance
theorem srcU_of {l:List Trm} (h:SrcOk l):SrcU (raws l):=fun i hi=>by
 rw [raws_length] at hi;rw [raws_at hi];have h1:=h.src _ (trD_mem hi);refine ⟨by show 1≤((trD l i).s:Int);omega,by show ((trD l i).s:Int)≤1000000;omega,fun h0 => ?_⟩;rw [raws_at (show i - 1<l.length by omega)];have:=h.lt (show i - 1<i by omega) hi;show ((trD l (i - 1)).s:Int)<((trD l i).s:Int);omega
def IntIs (z:Int) (w:World) (e:Ending) (w':World):Prop:=e = .returned (.int .i64 z)∧Below w.heap.size w w'
theorem asource (x:RT) (w:World):Calls Tryz.prog 71 #[uV x] w (IntIs x.s w):=by
 have hB:Below w.heap.size w w:=Below.refl _ _;unfold IntIs uV;go_enter Tryz.func71, Tryz.ntmps71;go_wp2;go_ret;exact ⟨rfl,BW⟩
theorem asrcid (x:RT) (w:World):Calls Tryz.prog 80 #[uV x] w (IntIs x.s w):=by
 have hB:Below w.heap.size w w:=Below.refl _ _;unfold IntIs uV;go_enter Tryz.func80, Tryz.ntmps80;go_wp2;go_ret;exact ⟨rfl,BW⟩
theorem aare {l:List RT} (p:Option Addr) (n c:Nat) (hn:l.length=n) (hn1:n≤1000000) (w:World) (hp:UAt 55 w p l):Calls Tryz.prog 70 #[.slice p n c,.func (.func 71) #[] #[]] w (BoolOk (decide (SrcU l)) w):=by
 have hB:Below w.heap.size w w:=Below.refl _ _;have HP:=Lib.hid hp;clear hp;have hnI:(n:Int)≤1000000:=by omega
 have G0:=fun (x:RT) W=>asource x W
 unfold IntIs uV at G0;generalize hd:decide (SrcU l)=b;unfold BoolOk;go_enter Tryz.func70, Tryz.ntmps70;go_wp2_with fail;go_loopw [10] (fun v10 wr=>∃ i:Nat,v10 = .int .i64 (i:Int)∧i≤n∧(∀ j,j<i→1≤(uD l j).s∧(uD l j).s≤1000000∧(0<j→(uD l (j - 1)).s<(uD l j).s))∧Below w.heap.size w wr) (fun v10 _=>(n - RowKit.intOf v10).toNat)
 case atStart=>exact ⟨0,rfl,by omega,fun j hj=>absurd hj (by omega),hB⟩
 case round =>
  clear hB;obtain ⟨i,rfl,hin,hall,hB⟩:=hrel;rcases Nat.lt_or_ge i n with hlt | hge
  ·have hlt':i<l.length:=by rw [hn];exact hlt
   obtain ⟨x,hx⟩:∃ x,x=uD l i:=⟨_,rfl⟩
   have hlI:(i:Int)<(n:Int):=by omega
   have KX:=Lib.hid hx;have HD:=Lib.hid hd;have HN:=Lib.hid hn;clear hd hn;obtain ⟨g,gcur,rfl,rg,g0,g1,g2⟩:=UAt.at (UAt.below HP.out hB) hlt';rw [← hx] at g0 g1 g2;clear hx;have Fg:∀ X,Row X g (.cells gcur 55)→(g<X.heap.size∧X.cell? ⟨g,i * 3,none⟩=some (.int .i64 x.s)∧X.cell? ⟨g,i * 3+1,none⟩=some (.string x.a)∧X.cell? ⟨g,i * 3+2,none⟩=some (.string x.b)):=fun X h=>⟨h.1,Row.cell_at h _ g0,Row.cell_at h _ g1,Row.cell_at h _ g2⟩
   have sg:=Fg _ rg;rcases (show x.s<1∨(1≤x.s∧1000000<x.s)∨(1≤x.s∧x.s≤1000000) by omega) with hs | ⟨hs,hs2⟩ | ⟨hs,hs2⟩
   ·have a1:decide (x.s<1)=true:=decide_eq_true hs;clear hall;go_wp2_with fail;have sB:=hB.size;refine world_cut (fun X=>Below w.heap.size w X∧Row X g (.cells gcur 55)∧Row X wr.heap.size (.cells #[.int .i64 x.s,.string x.a,.string x.b] 55)) ⟨BW,RWh,RWh⟩ ?_;clear rg sg hB sB;rintro V1 ⟨hB,rg,rb0⟩;have sg:=Fg _ rg;have sb0:=RF3 rb0;refine (G0 _ _).mono ?_;rintro e W2 ⟨rfl,h1⟩;have stp:=St2 hB h1 rg rb0;clear hB h1 rg sg rb0 sb0;obtain ⟨hB,rg,rb0⟩:=stp;have sg:=Fg _ rg;have sb0:=RF3 rb0;go_wp2;go_ret;have hb:b=false:=HD.out.symm.trans (decide_eq_false fun h=>by have k:=h i hlt';rw [← KX.out] at k;omega);exact ⟨by rw [hb];rfl,hB⟩
   ·clear hall;have a1:decide (x.s<1)=false:=decide_eq_false (by omega);have a2:decide (1000000<x.s)=true:=decide_eq_true hs2;go_wp2_with fail;have sB:=hB.size;refine world_cut (fun X=>Below w.heap.size w X∧Row X g (.cells gcur 55)∧Row X wr.heap.size (.cells #[.int .i64 x.s,.string x.a,.string x.b] 55)) ⟨BW,RWh,RWh⟩ ?_;clear rg sg hB sB;rintro V1 ⟨hB,rg,rb0⟩;have sg:=Fg _ rg;have sb0:=RF3 rb0;refine (G0 _ _).mono ?_;rintro e W2 ⟨rfl,h1⟩;have stp:=St2 hB h1 rg rb0;clear hB h1 rg sg rb0 sb0;obtain ⟨hB,rg,rb0⟩:=stp;have sg:=Fg _ rg;have sb0:=RF3 rb0;go_wp2;go_ret;have hb:b=false:=HD.out.symm.trans (decide_eq_false fun h=>by have k:=h i hlt';rw [← KX.out] at k;omega);exact ⟨by rw [hb];rfl,hB⟩
   ·have a1:decide (x.s<1)=false:=decide_eq_false (by omega);have a2:decide (1000000<x.s)=false:=decide_eq_false (by omega);have a1b:¬ x.s<1:=by omega
    have a2b:¬ 1000000<x.s:=by omega
    obtain ⟨k,hk⟩:∃ k:Nat,k=i - 1:=⟨_,rfl⟩
    rcases Nat.eq_zero_or_pos i with hi0 | hi0
    ·have a3:¬ (0:Int)<(i:Int):=by omega
     have HI0:=Lib.hid hi0;clear hk k hi0;go_wp2_with fail;have sB:=hB.size;refine world_cut (fun X=>Below w.heap.size w X∧Row X g (.cells gcur 55)∧Row X wr.heap.size (.cells #[.int .i64 x.s,.string x.a,.string x.b] 55)) ⟨BW,RWh,RWh⟩ ?_;clear rg sg hB sB;rintro V1 ⟨hB,rg,rb0⟩;have sg:=Fg _ rg;have sb0:=RF3 rb0;refine (G0 _ _).mono ?_;rintro e W2 ⟨rfl,h1⟩;have stp:=St2 hB h1 rg rb0;clear hB h1 rg sg rb0 sb0;obtain ⟨hB,rg,rb0⟩:=stp;have sg:=Fg _ rg;have sb0:=RF3 rb0;go_wp2;go_roundw
     case rel=>exact ⟨i+1,by go_num,by omega,fun j hj=>by rcases Nat.lt_succ_iff_lt_or_eq.1 hj with h | h;(· exact hall j h);(· subst h;rw [← KX.out];exact ⟨by omega,by omega,fun h=>absurd h (by have:=HI0.out;omega)⟩),BW⟩
     case measure=>simp [RowKit.intOf];omega
    ·have a3:(0:Int)<(i:Int):=by omega
     have hlk:k<l.length:=by omega
     have hmx:max ((i:Int) - 1) 0=(k:Int):=by omega
     have hkn:(k:Int)<(n:Int):=by omega
     have HK:=Lib.hid hk;clear hk;obtain ⟨y,hy⟩:∃ y,y=uD l k:=⟨_,rfl⟩
     have KY:=Lib.hid hy;obtain ⟨g',gc2,hgg,rg2,g3,g4,g5⟩:=UAt.at (UAt.below HP.out hB) hlk;obtain rfl:g=g':=by simpa using hgg
     obtain rfl:gcur=gc2:=by have:=rg.2.symm.trans rg2.2;simpa using this
     rw [← hy] at g3 g4 g5;clear hgg hy rg2 hlk sg Fg;have Fg:∀ X,Row X g (.cells gcur 55)→(g<X.heap.size∧X.cell? ⟨g,i * 3,none⟩=some (.int .i64 x.s)∧X.cell? ⟨g,i * 3+1,none⟩=some (.string x.a)∧X.cell? ⟨g,i * 3+2,none⟩=some (.string x.b)∧X.cell? ⟨g,k * 3,none⟩=some (.int .i64 y.s)∧X.cell? ⟨g,k * 3+1,none⟩=some (.string y.a)∧X.cell? ⟨g,k * 3+2,none⟩=some (.string y.b)):=fun X h=>⟨h.1,Row.cell_at h _ g0,Row.cell_at h _ g1,Row.cell_at h _ g2,Row.cell_at h _ g3,Row.cell_at h _ g4,Row.cell_at h _ g5⟩
     have sg:=Fg _ rg;rcases (show x.s≤y.s∨y.s<x.s by omega) with hxy | hxy
     ·clear hall;go_wp2_with fail;have sB:=hB.size;refine world_cut (fun X=>Below w.heap.size w X∧Row X g (.cells gcur 55)∧Row X wr.heap.size (.cells #[.int .i64 x.s,.string x.a,.string x.b] 55)) ⟨BW,RWh,RWh⟩ ?_;clear rg sg hB sB;rintro V1 ⟨hB,rg,rb0⟩;have sg:=Fg _ rg;have sb0:=RF3 rb0;refine (G0 _ _).mono ?_;rintro e W2 ⟨rfl,h1⟩;have stp:=St2 hB h1 rg rb0;clear hB h1 rg sg rb0 sb0;obtain ⟨hB,rg,rb0⟩:=stp;have sg:=Fg _ rg;have sb0:=RF3 rb0;go_wp2_with fail;refine (G0 _ _).mono ?_;rintro e W3 ⟨rfl,h1⟩;have stp:=St2 hB h1 rg rb0;clear hB h1 rg sg rb0 sb0;obtain ⟨hB,rg,rb0⟩:=stp;have sg:=Fg _ rg;have sb0:=RF3 rb0;go_wp2;go_ret;have hb:b=false:=HD.out.symm.trans (decide_eq_false fun h=>by have k:=h i hlt';rw [← KX.out] at k;have k2:=k.2.2 hi0;rw [← HK.out,← KY.out] at k2;omega);exact ⟨by rw [hb];rfl,hB⟩
     ·have hxy2:¬ x.s≤y.s:=by omega
      go_wp2_with fail;have sB:=hB.size;refine world_cut (fun X=>Below w.heap.size w X∧Row X g (.cells gcur 55)∧Row X wr.heap.size (.cells #[.int .i64 x.s,.string x.a,.string x.b] 55)) ⟨BW,RWh,RWh⟩ ?_;clear rg sg hB sB;rintro V1 ⟨hB,rg,rb0⟩;have sg:=Fg _ rg;have sb0:=RF3 rb0;refine (G0 _ _).mono ?_;rintro e W2 ⟨rfl,h1⟩;have stp:=St2 hB h1 rg rb0;clear hB h1 rg sg rb0 sb0;obtain ⟨hB,rg,rb0⟩:=stp;have sg:=Fg _ rg;have sb0:=RF3 rb0;go_wp2_with fail;refine (G0 _ _).mono ?_;rintro e W3 ⟨rfl,h1⟩;have stp:=St2 hB h1 rg rb0;clear hB h1 rg sg rb0 sb0;obtain ⟨hB,rg,rb0⟩:=stp;have sg:=Fg _ rg;have sb0:=RF3 rb0;go_wp2;go_roundw
      case rel=>exact ⟨i+1,by go_num,by omega,fun j hj=>by rcases Nat.lt_succ_iff_lt_or_eq.1 hj with h | h;(· exact hall j h);(· subst h;rw [← KX.out];exact ⟨by omega,by omega,fun _=>by rw [← HK.out,← KY.out];exact hxy⟩),BW⟩
      case measure=>simp [RowKit.intOf];omega
  ·obtain rfl:i=n:=by omega
   have hb:b=true:=hd.symm.trans (decide_eq_true fun j hj=>hall j (by omega));subst hb;clear hd;go_wp2;go_ret;exact ⟨rfl,hB⟩
theorem aareS {l:List RT} (p:Option Addr) (n c:Nat) (hn:l.length=n) (hn1:n≤1000000) (w:World) (hp:UAt 58 w p l):Calls Tryz.prog 79 #[.slice p n c,.func (.func 80) #[] #[]] w (BoolOk (decide (SrcU l)) w):=by
 have hB:Below w.heap.size w w:=Below.refl _ _;have HP:=Lib.hid hp;clear hp;have hnI:(n:Int)≤1000000:=by omega
 have G0:=fun (x:RT) W=>asrcid x W
 unfold IntIs uV at G0;generalize hd:decide (SrcU l)=b;unfold BoolOk;go_enter Tryz.func79, Tryz.ntmps79;go_wp2_with fail;go_loopw [10] (fun v10 wr=>∃ i:Nat,v10 = .int .i64 (i:Int)∧i≤n∧(∀ j,j<i→1≤(uD l j).s∧(uD l j).s≤1000000∧(0<j→(uD l (j - 1)).s<(uD l j).s))∧Below w.heap.size w wr) (fun v10 _=>(n - RowKit.intOf v10).toNat)
 case atStart=>exact ⟨0,rfl,by omega,fun j hj=>absurd hj (by omega),hB⟩
 case round =>
  clear hB;obtain ⟨i,rfl,hin,hall,hB⟩:=hrel;rcases Nat.lt_or_ge i n with hlt | hge
  ·have hlt':i<l.length:=by rw [hn];exact hlt
   obtain ⟨x,hx⟩:∃ x,x=uD l i:=⟨_,rfl⟩
   have hlI:(i:Int)<(n:Int):=by omega
   have KX:=Lib.hid hx;have HD:=Lib.hid hd;have HN:=Lib.hid hn;clear hd hn;obtain ⟨g,gcur,rfl,rg,g0,g1,g2⟩:=UAt.at (UAt.below HP.out hB) hlt';rw [← hx] at g0 g1 g2;clear hx;have Fg:∀ X,Row X g (.cells gcur 58)→(g<X.heap.size∧X.cell? ⟨g,i * 3,none⟩=some (.int .i64 x.s)∧X.cell? ⟨g,i * 3+1,none⟩=some (.string x.a)∧X.cell? ⟨g,i * 3+2,none⟩=some (.string x.b)):=fun X h=>⟨h.1,Row.cell_at h _ g0,Row.cell_at h _ g1,Row.cell_at h _ g2⟩
   have sg:=Fg _ rg;rcases (show x.s<1∨(1≤x.s∧1000000<x.s)∨(1≤x.s∧x.s≤1000000) by omega) with hs | ⟨hs,hs2⟩ | ⟨hs,hs2⟩
   ·have a1:decide (x.s<1)=true:=decide_eq_true hs;clear hall;go_wp2_with fail;have sB:=hB.size;refine world_cut (fun X=>Below w.heap.size w X∧Row X g (.cells gcur 58)∧Row X wr.heap.size (.cells #[.int .i64 x.s,.string x.a,.string x.b] 58)) ⟨BW,RWh,RWh⟩ ?_;clear rg sg hB sB;rintro V1 ⟨hB,rg,rb0⟩;have sg:=Fg _ rg;have sb0:=RF3 rb0;refine (G0 _ _).mono ?_;rintro e W2 ⟨rfl,h1⟩;have stp:=St2 hB h1 rg rb0;clear hB h1 rg sg rb0 sb0;obtain ⟨hB,rg,rb0⟩:=stp;have sg:=Fg _ rg;have sb0:=RF3 rb0;go_wp2;go_ret;have hb:b=false:=HD.out.symm.trans (decide_eq_false fun h=>by have k:=h i hlt';rw [← KX.out] at k;omega);exact ⟨by rw [hb];rfl,hB⟩
   ·clear hall;have a1:decide (x.s<1)=false:=decide_eq_false (by omega);have a2:decide (1000000<x.s)=true:=decide_eq_true hs2;go_wp2_with fail;have sB:=hB.size;refine world_cut (fun X=>Below w.heap.size w X∧Row X g (.cells gcur 58)∧Row X wr.heap.size (.cells #[.int .i64 x.s,.string x.a,.string x.b] 58)) ⟨BW,RWh,RWh⟩ ?_;clear rg sg hB sB;rintro V1 ⟨hB,rg,rb0⟩;have sg:=Fg _ rg;have sb0:=RF3 rb0;refine (G0 _ _).mono ?_;rintro e W2 ⟨rfl,h1⟩;have stp:=St2 hB h1 rg rb0;clear hB h1 rg sg rb0 sb0;obtain ⟨hB,rg,rb0⟩:=stp;have sg:=Fg _ rg;have sb0:=RF3 rb0;go_wp2;go_ret;have hb:b=false:=HD.out.symm.trans (decide_eq_false fun h=>by have k:=h i hlt';rw [← KX.out] at k;omega);exact ⟨by rw [hb];rfl,hB⟩
   ·have a1:decide (x.s<1)=false:=decide_eq_false (by omega);have a2:decide (1000000<x.s)=false:=decide_eq_false (by omega);have a1b:¬ x.s<1:=by omega
    have a2b:¬ 1000000<x.s:=by omega
    obtain ⟨k,hk⟩:∃ k:Nat,k=i - 1:=⟨_,rfl⟩
    rcases Nat.eq_zero_or_pos i with hi0 | hi0
    ·have a3:¬ (0:Int)<(i:Int):=by omega
     have HI0:=Lib.hid hi0;clear hk k hi0;go_wp2_with fail;have sB:=hB.size;refine world_cut (fun X=>Below w.heap.size w X∧Row X g (.cells gcur 58)∧Row X wr.heap.size (.cells #[.int .i64 x.s,.string x.a,.string x.b] 58)) ⟨BW,RWh,RWh⟩ ?_;clear rg sg hB sB;rintro V1 ⟨hB,rg,rb0⟩;have sg:=Fg _ rg;have sb0:=RF3 rb0;refine (G0 _ _).mono ?_;rintro e W2 ⟨rfl,h1⟩;have stp:=St2 hB h1 rg rb0;clear hB h1 rg sg rb0 sb0;obtain ⟨hB,rg,rb0⟩:=stp;have sg:=Fg _ rg;have sb0:=RF3 rb0;go_wp2;go_roundw
     case rel=>exact ⟨i+1,by go_num,by omega,fun j hj=>by rcases Nat.lt_succ_iff_lt_or_eq.1 hj with h | h;(· exact hall j h);(· subst h;rw [← KX.out];exact ⟨by omega,by omega,fun h=>absurd h (by have:=HI0.out;omega)⟩),BW⟩
     case measure=>simp [RowKit.intOf];omega
    ·have a3:(0:Int)<(i:Int):=by omega
     have hlk:k<l.length:=by omega
     have hmx:max ((i:Int) - 1) 0=(k:Int):=by omega
     have hkn:(k:Int)<(n:Int):=by omega
     have HK:=Lib.hid hk;clear hk;obtain ⟨y,hy⟩:∃ y,y=uD l k:=⟨_,rfl⟩
     have KY:=Lib.hid hy;obtain ⟨g',gc2,hgg,rg2,g3,g4,g5⟩:=UAt.at (UAt.below HP.out hB) hlk;obtain rfl:g=g':=by simpa using hgg
     obtain rfl:gcur=gc2:=by have:=rg.2.symm.trans rg2.2;simpa using this
     rw [← hy] at g3 g4 g5;clear hgg hy rg2 hlk sg Fg;have Fg:∀ X,Row X g (.cells gcur 58)→(g<X.heap.size∧X.cell? ⟨g,i * 3,none⟩=some (.int .i64 x.s)∧X.cell? ⟨g,i * 3+1,none⟩=some (.string x.a)∧X.cell? ⟨g,i * 3+2,none⟩=some (.string x.b)∧X.cell? ⟨g,k * 3,none⟩=some (.int .i64 y.s)∧X.cell? ⟨g,k * 3+1,none⟩=some (.string y.a)∧X.cell? ⟨g,k * 3+2,none⟩=some (.string y.b)):=fun X h=>⟨h.1,Row.cell_at h _ g0,Row.cell_at h _ g1,Row.cell_at h _ g2,Row.cell_at h _ g3,Row.cell_at h _ g4,Row.cell_at h _ g5⟩
     have sg:=Fg _ rg;rcases (show x.s≤y.s∨y.s<x.s by omega) with hxy | hxy
     ·clear hall;go_wp2_with fail;have sB:=hB.size;refine world_cut (fun X=>Below w.heap.size w X∧Row X g (.cells gcur 58)∧Row X wr.heap.size (.cells #[.int .i64 x.s,.string x.a,.string x.b] 58)) ⟨BW,RWh,RWh⟩ ?_;clear rg sg hB sB;rintro V1 ⟨hB,rg,rb0⟩;have sg:=Fg _ rg;have sb0:=RF3 rb0;refine (G0 _ _).mono ?_;rintro e W2 ⟨rfl,h1⟩;have stp:=St2 hB h1 rg rb0;clear hB h1 rg sg rb0 sb0;obtain ⟨hB,rg,rb0⟩:=stp;have sg:=Fg _ rg;have sb0:=RF3 rb0;go_wp2_with fail;refine (G0 _ _).mono ?_;rintro e W3 ⟨rfl,h1⟩;have stp:=St2 hB h1 rg rb0;clear hB h1 rg sg rb0 sb0;obtain ⟨hB,rg,rb0⟩:=stp;have sg:=Fg _ rg;have sb0:=RF3 rb0;go_wp2;go_ret;have hb:b=false:=HD.out.symm.trans (decide_eq_false fun h=>by have k:=h i hlt';rw [← KX.out] at k;have k2:=k.2.2 hi0;rw [← HK.out,← KY.out] at k2;omega);exact ⟨by rw [hb];rfl,hB⟩
     ·have hxy2:¬ x.s≤y.s:=by omega
      go_wp2_with fail;have sB:=hB.size;refine world_cut (fun X=>Below w.heap.size w X∧Row X g (.cells gcur 58)∧Row X wr.heap.size (.cells #[.int .i64 x.s,.string x.a,.string x.b] 58)) ⟨BW,RWh,RWh⟩ ?_;clear rg sg hB sB;rintro V1 ⟨hB,rg,rb0⟩;have sg:=Fg _ rg;have sb0:=RF3 rb0;refine (G0 _ _).mono ?_;rintro e W2 ⟨rfl,h1⟩;have stp:=St2 hB h1 rg rb0;clear hB h1 rg sg rb0 sb0;obtain ⟨hB,rg,rb0⟩:=stp;have sg:=Fg _ rg;have sb0:=RF3 rb0;go_wp2_with fail;refine (G0 _ _).mono ?_;rintro e W3 ⟨rfl,h1⟩;have stp:=St2 hB h1 rg rb0;clear hB h1 rg sg rb0 sb0;obtain ⟨hB,rg,rb0⟩:=stp;have sg:=Fg _ rg;have sb0:=RF3 rb0;go_wp2;go_roundw
      case rel=>exact ⟨i+1,by go_num,by omega,fun j hj=>by rcases Nat.lt_succ_iff_lt_or_eq.1 hj with h | h;(· exact hall j h);(· subst h;rw [← KX.out];exact ⟨by omega,by omega,fun _=>by rw [← HK.out,← KY.out];exact hxy⟩),BW⟩
      case measure=>simp [RowKit.intOf];omega
  ·obtain rfl:i=n:=by omega
   have hb:b=true:=hd.symm.trans (decide_eq_true fun j hj=>hall j (by omega));subst hb;clear hd;go_wp2;go_ret;exact ⟨rfl,hB⟩
end Go.Proofs.YtdikaoahgleffaaGreatDoor
