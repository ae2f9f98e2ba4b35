/-
 Strings that are an interval, or short: or both functions (the program's and the reference's) say no. Points of any strings, in memory; when they are a history.
-/
import Derived.Test.YtnokpldomlmamaaGreatDoorOM1
set_option linter.unusedSimpArgs false
set_option linter.unusedVariables false
set_option maxRecDepth 100000
set_option maxHeartbeats 16000000
namespace Go.Proofs.YtnokpldomlmamaaGreatDoor
open Go Go.RowKit Go.Lib Go.Shelf
theorem str_first (a:ByteArray) (hs:0<a.size):∃ d:Nat,∀ W,(Instr.index 9 (.string a) (.int .i64 0)).run Tryz.prog W = .ok (.int .u8 (d:Int)) W:=by
 refine ⟨(a[0]'hs).toNat,fun W => ?_⟩
 rw [run_index_string W 9 a .i64 0 Tryz.underlying9, dif_pos ⟨by omega,by omega⟩]
 rfl
theorem enot_a {a b c d:ByteArray} (V1:∀ W,Env W→Calls Tryz.prog 58 #[.agg #[.string a,.string b]] W (BoolOk false W)) (w:World) (he:Env w):Calls Tryz.prog 68 #[.agg #[.string a,.string b,.string c,.string d]] w (BoolOk false w):=by
 have hB:Below w.heap.size w w:=Below.refl _ _
 have M1:=V1
 unfold BoolOk at *
 clear V1
 go_enter Tryz.func68, Tryz.ntmps68
 go_wp2_with fail
 have sB:=hB.size
 refine world_cut (fun X=>Below w.heap.size w X∧Row X w.heap.size (.cells #[.string a,.string b,.string c,.string d] 30)) ⟨BW,RWh⟩ ?_
 clear hB sB
 rintro V1 ⟨hB,rx⟩
 have sx:=RF4 rx
 refine (M1 _ (he.below hB)).mono ?_
 rintro e W2 ⟨rfl,h1⟩
 have st:=St1 hB h1 rx;clear hB h1 rx sx
 obtain ⟨hB,rx⟩:=st
 have sx:=RF4 rx
 go_wp2
 go_ret
 exact ⟨rfl,hB⟩
theorem enot_b {a b c d:ByteArray} (V1:∀ W,Env W→Calls Tryz.prog 58 #[.agg #[.string a,.string b]] W (BoolOk true W)) (V2:∀ W,Env W→Calls Tryz.prog 58 #[.agg #[.string c,.string d]] W (BoolOk false W)) (w:World) (he:Env w):Calls Tryz.prog 68 #[.agg #[.string a,.string b,.string c,.string d]] w (BoolOk false w):=by
 have hB:Below w.heap.size w w:=Below.refl _ _
 have M1:=V1
 have M2:=V2
 unfold BoolOk at *
 clear V1 V2
 go_enter Tryz.func68, Tryz.ntmps68
 go_wp2_with fail
 have sB:=hB.size
 refine world_cut (fun X=>Below w.heap.size w X∧Row X w.heap.size (.cells #[.string a,.string b,.string c,.string d] 30)) ⟨BW,RWh⟩ ?_
 clear hB sB
 rintro V1 ⟨hB,rx⟩
 have sx:=RF4 rx
 refine (M1 _ (he.below hB)).mono ?_
 rintro e W2 ⟨rfl,h1⟩
 have st:=St1 hB h1 rx;clear hB h1 rx sx
 obtain ⟨hB,rx⟩:=st
 have sx:=RF4 rx
 go_wp2_with fail
 refine (M2 _ (he.below hB)).mono ?_
 rintro e W3 ⟨rfl,h1⟩
 have st:=St1 hB h1 rx;clear hB h1 rx sx
 obtain ⟨hB,rx⟩:=st
 have sx:=RF4 rx
 go_wp2
 go_ret
 exact ⟨rfl,hB⟩
theorem enot_c {a b c d:ByteArray} {k:Int} (hk:0<k) (V1:∀ W,Env W→Calls Tryz.prog 58 #[.agg #[.string a,.string b]] W (BoolOk true W)) (V2:∀ W,Env W→Calls Tryz.prog 58 #[.agg #[.string c,.string d]] W (BoolOk true W)) (V3:∀ W,Env W→Calls Tryz.prog 53 #[.agg #[.string a,.string b],.agg #[.string c,.string d]] W (CmpOk k W)) (w:World) (he:Env w):Calls Tryz.prog 68 #[.agg #[.string a,.string b,.string c,.string d]] w (BoolOk false w):=by
 have hB:Below w.heap.size w w:=Below.refl _ _
 have M1:=V1
 have M2:=V2
 have M3:=V3
 unfold BoolOk at *
 unfold CmpOk at M3
 have hk0:decide (k≤0)=false:=decide_eq_false (by omega)
 clear V1 V2 V3 hk
 go_enter Tryz.func68, Tryz.ntmps68
 go_wp2_with fail
 have sB:=hB.size
 refine world_cut (fun X=>Below w.heap.size w X∧Row X w.heap.size (.cells #[.string a,.string b,.string c,.string d] 30)) ⟨BW,RWh⟩ ?_
 clear hB sB
 rintro V1 ⟨hB,rx⟩
 have sx:=RF4 rx
 refine (M1 _ (he.below hB)).mono ?_
 rintro e W2 ⟨rfl,h1⟩
 have st:=St1 hB h1 rx;clear hB h1 rx sx
 obtain ⟨hB,rx⟩:=st
 have sx:=RF4 rx
 go_wp2_with fail
 refine (M2 _ (he.below hB)).mono ?_
 rintro e W3 ⟨rfl,h1⟩
 have st:=St1 hB h1 rx;clear hB h1 rx sx
 obtain ⟨hB,rx⟩:=st
 have sx:=RF4 rx
 go_wp2_with fail
 clear rx
 clear sx
 refine (M3 _ (he.below hB)).mono ?_
 rintro e W4 ⟨rfl,h1⟩
 have st:=St0 hB h1;clear hB h1
 have hB:=st;clear st
 go_wp2
 go_ret
 exact ⟨rfl,hB⟩
theorem renot_a {a b c d:ByteArray} {v:Bool} (V1:∀ W,Env W→Calls Tryz.prog 61 #[.agg #[.string a,.string b]] W (BoolOk false W)) (V2:∀ W,Env W→Calls Tryz.prog 61 #[.agg #[.string c,.string d]] W (BoolOk v W)) (w:World) (he:Env w):Calls Tryz.prog 71 #[.agg #[.string a,.string b,.string c,.string d]] w (BoolOk false w):=by
 have hB:Below w.heap.size w w:=Below.refl _ _
 have M1:=V1
 have M2:=V2
 unfold BoolOk at *
 clear V1 V2
 go_enter Tryz.func71, Tryz.ntmps71
 go_wp2_with fail
 have sB:=hB.size
 refine world_cut (fun X=>Below w.heap.size w X∧Row X w.heap.size (.cells #[.string a,.string b,.string c,.string d] 30)) ⟨BW,RWh⟩ ?_
 clear hB sB
 rintro V1 ⟨hB,rx⟩
 have sx:=RF4 rx
 refine (M1 _ (he.below hB)).mono ?_
 rintro e W2 ⟨rfl,h1⟩
 have st:=St1 hB h1 rx;clear hB h1 rx sx
 obtain ⟨hB,rx⟩:=st
 have sx:=RF4 rx
 go_wp2_with fail
 refine (M2 _ (he.below hB)).mono ?_
 rintro e W3 ⟨rfl,h1⟩
 have st:=St1 hB h1 rx;clear hB h1 rx sx
 obtain ⟨hB,rx⟩:=st
 have sx:=RF4 rx
 go_wp2
 go_ret
 exact ⟨rfl,hB⟩
theorem renot_b {a b c d:ByteArray} (V1:∀ W,Env W→Calls Tryz.prog 61 #[.agg #[.string a,.string b]] W (BoolOk true W)) (V2:∀ W,Env W→Calls Tryz.prog 61 #[.agg #[.string c,.string d]] W (BoolOk false W)) (w:World) (he:Env w):Calls Tryz.prog 71 #[.agg #[.string a,.string b,.string c,.string d]] w (BoolOk false w):=by
 have hB:Below w.heap.size w w:=Below.refl _ _
 have M1:=V1
 have M2:=V2
 unfold BoolOk at *
 clear V1 V2
 go_enter Tryz.func71, Tryz.ntmps71
 go_wp2_with fail
 have sB:=hB.size
 refine world_cut (fun X=>Below w.heap.size w X∧Row X w.heap.size (.cells #[.string a,.string b,.string c,.string d] 30)) ⟨BW,RWh⟩ ?_
 clear hB sB
 rintro V1 ⟨hB,rx⟩
 have sx:=RF4 rx
 refine (M1 _ (he.below hB)).mono ?_
 rintro e W2 ⟨rfl,h1⟩
 have st:=St1 hB h1 rx;clear hB h1 rx sx
 obtain ⟨hB,rx⟩:=st
 have sx:=RF4 rx
 go_wp2_with fail
 refine (M2 _ (he.below hB)).mono ?_
 rintro e W3 ⟨rfl,h1⟩
 have st:=St1 hB h1 rx;clear hB h1 rx sx
 obtain ⟨hB,rx⟩:=st
 have sx:=RF4 rx
 go_wp2
 go_ret
 exact ⟨rfl,hB⟩
theorem renot_c {a b c d:ByteArray} {k:Int} (hk:0<k) (V1:∀ W,Env W→Calls Tryz.prog 61 #[.agg #[.string a,.string b]] W (BoolOk true W)) (V2:∀ W,Env W→Calls Tryz.prog 61 #[.agg #[.string c,.string d]] W (BoolOk true W)) (V3:∀ W,Env W→Calls Tryz.prog 56 #[.agg #[.string a,.string b],.agg #[.string c,.string d]] W (CmpOk k W)) (w:World) (he:Env w):Calls Tryz.prog 71 #[.agg #[.string a,.string b,.string c,.string d]] w (BoolOk false w):=by
 have hB:Below w.heap.size w w:=Below.refl _ _
 have M1:=V1
 have M2:=V2
 have M3:=V3
 unfold BoolOk at *
 unfold CmpOk at M3
 have hk0:decide (k≤0)=false:=decide_eq_false (by omega)
 clear V1 V2 V3 hk
 go_enter Tryz.func71, Tryz.ntmps71
 go_wp2_with fail
 have sB:=hB.size
 refine world_cut (fun X=>Below w.heap.size w X∧Row X w.heap.size (.cells #[.string a,.string b,.string c,.string d] 30)) ⟨BW,RWh⟩ ?_
 clear hB sB
 rintro V1 ⟨hB,rx⟩
 have sx:=RF4 rx
 refine (M1 _ (he.below hB)).mono ?_
 rintro e W2 ⟨rfl,h1⟩
 have st:=St1 hB h1 rx;clear hB h1 rx sx
 obtain ⟨hB,rx⟩:=st
 have sx:=RF4 rx
 go_wp2_with fail
 refine (M2 _ (he.below hB)).mono ?_
 rintro e W3 ⟨rfl,h1⟩
 have st:=St1 hB h1 rx;clear hB h1 rx sx
 obtain ⟨hB,rx⟩:=st
 have sx:=RF4 rx
 go_wp2_with fail
 clear rx
 clear sx
 refine (M3 _ (he.below hB)).mono ?_
 rintro e W4 ⟨rfl,h1⟩
 have st:=St0 hB h1;clear hB h1
 have hB:=st;clear st
 go_wp2
 go_ret
 exact ⟨rfl,hB⟩
def NotIv (a b c d:ByteArray):Prop:=∀ W,Env W→Calls Tryz.prog 68 #[.agg #[.string a,.string b,.string c,.string d]] W (BoolOk false W)∧Calls Tryz.prog 71 #[.agg #[.string a,.string b,.string c,.string d]] W (BoolOk false W)
theorem RatS.prog {k:Nat} {a b:ByteArray} {q:Rat} (h:RatS k a b q) (hk:k≤200) (W:World) (he:Env W):Calls Tryz.prog 58 #[.agg #[.string a,.string b]] W (BoolOk true W):=by
 obtain ⟨rfl,rfl,hd⟩:=h
 exact qvalid q (hd.mono hk) W he
theorem RatS.ref {k:Nat} {a b:ByteArray} {q:Rat} (h:RatS k a b q) (hk:k≤200) (W:World) (he:Env W):Calls Tryz.prog 61 #[.agg #[.string a,.string b]] W (BoolOk true W):=by
 obtain ⟨rfl,rfl,hd⟩:=h
 exact rqvalid q (hd.mono hk) W
theorem iv_cases (a b c d:ByteArray) (ha:Str a) (hb:Str b) (hc:Str c) (hd:Str d):(∃ i:Iv,RatS 200 a b i.lo∧RatS 200 c d i.hi∧i.Ok)∨NotIv a b c d:=by
 rcases rat_cases a b ha hb with ⟨p,hp⟩ | hp
 ·rcases rat_cases c d hc hd with ⟨q,hq⟩ | hq
  ·by_cases h:p≤q
   ·exact .inl ⟨⟨p,q⟩,hp,hq,h⟩
   ·have hk:0<cmpQ p q:=by have:=mt (cmpQ_le (a:=p) (b:=q)).1 h;omega
    refine .inr fun W he=>⟨enot_c hk (fun W he=>hp.prog (by omega) W he) (fun W he=>hq.prog (by omega) W he) (fun W he => ?_) W he,renot_c hk (fun W he=>hp.ref (by omega) W he) (fun W he=>hq.ref (by omega) W he) (fun W he => ?_) W he⟩
    ·obtain ⟨rfl,rfl,h1⟩:=hp
     obtain ⟨rfl,rfl,h2⟩:=hq
     exact qcompare p q h1 h2 W he
    ·obtain ⟨rfl,rfl,h1⟩:=hp
     obtain ⟨rfl,rfl,h2⟩:=hq
     exact rqcompare p q h1 h2 W
  ·exact .inr fun W he=>⟨enot_b (fun W he=>hp.prog (by omega) W he) (fun W he=>hq.prog W he) W he,renot_b (fun W he=>hp.ref (by omega) W he) (fun W he=>hq.ref W he) W he⟩
 ·refine .inr fun W he=>⟨enot_a (fun W he=>hp.prog W he) W he,?_⟩
  rcases rat_cases c d hc hd with ⟨q,hq⟩ | hq
  ·exact renot_a (fun W he=>hp.ref W he) (fun W he=>hq.ref (by omega) W he) W he
  ·exact renot_a (fun W he=>hp.ref W he) (fun W he=>hq.ref W he) W he
theorem NotIv.prog {a b c d:ByteArray} (h:NotIv a b c d) (W:World) (he:Env W):Calls Tryz.prog 68 #[.agg #[.string a,.string b,.string c,.string d]] W (BoolOk false W):=(h W he).1
theorem NotIv.ref {a b c d:ByteArray} (h:NotIv a b c d) (W:World) (he:Env W):Calls Tryz.prog 71 #[.agg #[.string a,.string b,.string c,.string d]] W (BoolOk false W):=(h W he).2
theorem snot_a {a b:ByteArray} (V1:∀ W,Env W→Calls Tryz.prog 58 #[.agg #[.string a,.string b]] W (BoolOk false W)) (w:World) (he:Env w):Calls Tryz.prog 67 #[.agg #[.string a,.string b]] w (BoolOk false w):=by
 have hB:Below w.heap.size w w:=Below.refl _ _
 have M1:=V1
 unfold BoolOk at *
 clear V1
 go_enter Tryz.func67, Tryz.ntmps67
 go_wp2_with fail
 have sB:=hB.size
 refine world_cut (fun X=>Below w.heap.size w X∧Row X w.heap.size (.cells #[.string a,.string b] 23)) ⟨BW,RWh⟩ ?_
 clear hB sB
 rintro V1 ⟨hB,rr⟩
 have sr:=RF2 rr
 refine (M1 _ (he.below hB)).mono ?_
 rintro e W2 ⟨rfl,h1⟩
 have st:=St1 hB h1 rr;clear hB h1 rr sr
 obtain ⟨hB,rr⟩:=st
 have sr:=RF2 rr
 go_wp2
 go_ret
 exact ⟨rfl,hB⟩
theorem snot_b {a b tn:ByteArray} (ht:40<tn.size) (V1:∀ W,Env W→Calls Tryz.prog 58 #[.agg #[.string a,.string b]] W (BoolOk true W)) (V2:∀ W,Calls Tryz.prog 147 #[.string a,.string { data:=#[45] }] W fun e w'=>e = .returned (.string tn)∧Below W.heap.size W w') (w:World) (he:Env w):Calls Tryz.prog 67 #[.agg #[.string a,.string b]] w (BoolOk false w):=by
 have hB:Below w.heap.size w w:=Below.refl _ _
 have M1:=V1
 have MT:=V2
 unfold BoolOk at *
 clear V1 V2
 have e1:decide ((tn.size:Int)≤40)=false:=decide_eq_false (by omega)
 clear ht
 go_enter Tryz.func67, Tryz.ntmps67
 go_wp2_with fail
 have sB:=hB.size
 refine world_cut (fun X=>Below w.heap.size w X∧Row X w.heap.size (.cells #[.string a,.string b] 23)) ⟨BW,RWh⟩ ?_
 clear hB sB
 rintro V1 ⟨hB,rr⟩
 have sr:=RF2 rr
 refine (M1 _ (he.below hB)).mono ?_
 rintro e W2 ⟨rfl,h1⟩
 have st:=St1 hB h1 rr;clear hB h1 rr sr
 obtain ⟨hB,rr⟩:=st
 have sr:=RF2 rr
 go_wp2_with fail
 refine (MT _).mono ?_
 rintro e W3 ⟨rfl,h1⟩
 have st:=St1 hB h1 rr;clear hB h1 rr sr
 obtain ⟨hB,rr⟩:=st
 have sr:=RF2 rr
 go_wp2
 go_ret
 exact ⟨rfl,hB⟩
theorem snot_c {a b tn:ByteArray} (ht:tn.size≤40) (hb:40<b.size) (V1:∀ W,Env W→Calls Tryz.prog 58 #[.agg #[.string a,.string b]] W (BoolOk true W)) (V2:∀ W,Calls Tryz.prog 147 #[.string a,.string { data:=#[45] }] W fun e w'=>e = .returned (.string tn)∧Below W.heap.size W w') (w:World) (he:Env w):Calls Tryz.prog 67 #[.agg #[.string a,.string b]] w (BoolOk false w):=by
 have hB:Below w.heap.size w w:=Below.refl _ _
 have M1:=V1
 have MT:=V2
 unfold BoolOk at *
 clear V1 V2
 have e1:decide ((tn.size:Int)≤40)=true:=decide_eq_true (by omega)
 have e2:decide ((b.size:Int)≤40)=false:=decide_eq_false (by omega)
 clear ht hb
 go_enter Tryz.func67, Tryz.ntmps67
 go_wp2_with fail
 have sB:=hB.size
 refine world_cut (fun X=>Below w.heap.size w X∧Row X w.heap.size (.cells #[.string a,.string b] 23)) ⟨BW,RWh⟩ ?_
 clear hB sB
 rintro V1 ⟨hB,rr⟩
 have sr:=RF2 rr
 refine (M1 _ (he.below hB)).mono ?_
 rintro e W2 ⟨rfl,h1⟩
 have st:=St1 hB h1 rr;clear hB h1 rr sr
 obtain ⟨hB,rr⟩:=st
 have sr:=RF2 rr
 go_wp2_with fail
 refine (MT _).mono ?_
 rintro e W3 ⟨rfl,h1⟩
 have st:=St1 hB h1 rr;clear hB h1 rr sr
 obtain ⟨hB,rr⟩:=st
 have sr:=RF2 rr
 go_wp2
 go_ret
 exact ⟨rfl,hB⟩
theorem rsnot_1 {a b:ByteArray} (V1:∀ W,Env W→Calls Tryz.prog 61 #[.agg #[.string a,.string b]] W (BoolOk false W)) (h0:a.size=0) (w:World) (he:Env w):Calls Tryz.prog 69 #[.agg #[.string a,.string b]] w (fun e w'=>e = .returned (.tuple #[.bool false,.bool false])∧Below w.heap.size w w'):=by
 have hB:Below w.heap.size w w:=Below.refl _ _
 have MV:=V1
 unfold BoolOk at *
 clear V1
 have hz1:¬ ((0:Int)<(a.size:Int)):=by omega
 clear h0
 go_enter Tryz.func69, Tryz.ntmps69
 go_wp2_with fail
 have sB:=hB.size
 refine world_cut (fun X=>Below w.heap.size w X∧Row X w.heap.size (.cells #[.string a,.string b] 23)) ⟨BW,RWh⟩ ?_
 clear hB sB
 rintro V1 ⟨hB,rr⟩
 have sr:=RF2 rr
 refine (MV _ (he.below hB)).mono ?_
 rintro e W2 ⟨rfl,h1⟩
 have st:=St1 hB h1 rr;clear hB h1 rr sr
 obtain ⟨hB,rr⟩:=st
 have sr:=RF2 rr
 go_upto_region 3 with fail
 go_wp2
 refine bodyPost_ret (v := .tuple #[.bool false,.bool false]) ?res rfl ⟨rfl,hB⟩
 case res=>simp [results,Tryz.results69, go_sem]
theorem rsnot_2 {a b:ByteArray} (V1:∀ W,Env W→Calls Tryz.prog 61 #[.agg #[.string a,.string b]] W (BoolOk false W)) (hs:Str a) (h0:0<a.size) (hidx:∀ W,(Instr.index 9 (.string a) (.int .i64 0)).run Tryz.prog W = .ok (.int .u8 (45:Int)) W) (w:World) (he:Env w):Calls Tryz.prog 69 #[.agg #[.string a,.string b]] w (fun e w'=>e = .returned (.tuple #[.bool false,.bool false])∧Below w.heap.size w w'):=by
 have hB:Below w.heap.size w w:=Below.refl _ _
 have MV:=V1
 unfold BoolOk at *
 clear V1
 have hz1:(0:Int)<(a.size:Int):=by omega
 have hw:IntKind.i64.wrap ((a.size:Int) - 1)=(a.size:Int) - 1:=by rw [IntKind.wrap_i64];unfold Str at hs;omega
 clear h0
 clear hs
 go_enter Tryz.func69, Tryz.ntmps69
 go_wp2_with fail
 have sB:=hB.size
 refine world_cut (fun X=>Below w.heap.size w X∧Row X w.heap.size (.cells #[.string a,.string b] 23)) ⟨BW,RWh⟩ ?_
 clear hB sB
 rintro V1 ⟨hB,rr⟩
 have sr:=RF2 rr
 refine (MV _ (he.below hB)).mono ?_
 rintro e W2 ⟨rfl,h1⟩
 have st:=St1 hB h1 rr;clear hB h1 rr sr
 obtain ⟨hB,rr⟩:=st
 have sr:=RF2 rr
 go_upto_region 3 with fail
 go_wp2
 refine bodyPost_ret (v := .tuple #[.bool false,.bool false]) ?res rfl ⟨rfl,hB⟩
 case res=>simp [results,Tryz.results69, go_sem]
theorem rsnot_3 {a b:ByteArray} (V1:∀ W,Env W→Calls Tryz.prog 61 #[.agg #[.string a,.string b]] W (BoolOk false W)) (h0:0<a.size) {d:Nat} (hd:d≠45) (hidx:∀ W,(Instr.index 9 (.string a) (.int .i64 0)).run Tryz.prog W = .ok (.int .u8 (d:Int)) W) (w:World) (he:Env w):Calls Tryz.prog 69 #[.agg #[.string a,.string b]] w (fun e w'=>e = .returned (.tuple #[.bool false,.bool false])∧Below w.heap.size w w'):=by
 have hB:Below w.heap.size w w:=Below.refl _ _
 have MV:=V1
 unfold BoolOk at *
 clear V1
 have hz1:(0:Int)<(a.size:Int):=by omega
 have hd3:((d:Int) == 45)=false:=by rw [beq_eq_false_iff_ne];omega
 clear hd
 clear h0
 go_enter Tryz.func69, Tryz.ntmps69
 go_wp2_with fail
 have sB:=hB.size
 refine world_cut (fun X=>Below w.heap.size w X∧Row X w.heap.size (.cells #[.string a,.string b] 23)) ⟨BW,RWh⟩ ?_
 clear hB sB
 rintro V1 ⟨hB,rr⟩
 have sr:=RF2 rr
 refine (MV _ (he.below hB)).mono ?_
 rintro e W2 ⟨rfl,h1⟩
 have st:=St1 hB h1 rr;clear hB h1 rr sr
 obtain ⟨hB,rr⟩:=st
 have sr:=RF2 rr
 go_upto_region 3 with fail
 go_wp2
 refine bodyPost_ret (v := .tuple #[.bool false,.bool false]) ?res rfl ⟨rfl,hB⟩
 case res=>simp [results,Tryz.results69, go_sem]
theorem rsnot_4 {a b:ByteArray} (V1:∀ W,Env W→Calls Tryz.prog 61 #[.agg #[.string a,.string b]] W (BoolOk true W)) (hs:Str a) (h0:0<a.size) (hidx:∀ W,(Instr.index 9 (.string a) (.int .i64 0)).run Tryz.prog W = .ok (.int .u8 (45:Int)) W) (hn:40<a.size - 1) (w:World) (he:Env w):Calls Tryz.prog 69 #[.agg #[.string a,.string b]] w (fun e w'=>e = .returned (.tuple #[.bool false,.bool true])∧Below w.heap.size w w'):=by
 have hB:Below w.heap.size w w:=Below.refl _ _
 have MV:=V1
 unfold BoolOk at *
 clear V1
 have hz1:(0:Int)<(a.size:Int):=by omega
 have hw:IntKind.i64.wrap ((a.size:Int) - 1)=(a.size:Int) - 1:=by rw [IntKind.wrap_i64];unfold Str at hs;omega
 have e1:¬ ((a.size:Int) - 1≤40):=by omega
 clear hn
 clear h0
 clear hs
 go_enter Tryz.func69, Tryz.ntmps69
 go_wp2_with fail
 have sB:=hB.size
 refine world_cut (fun X=>Below w.heap.size w X∧Row X w.heap.size (.cells #[.string a,.string b] 23)) ⟨BW,RWh⟩ ?_
 clear hB sB
 rintro V1 ⟨hB,rr⟩
 have sr:=RF2 rr
 refine (MV _ (he.below hB)).mono ?_
 rintro e W2 ⟨rfl,h1⟩
 have st:=St1 hB h1 rr;clear hB h1 rr sr
 obtain ⟨hB,rr⟩:=st
 have sr:=RF2 rr
 go_upto_region 3 with fail
 go_wp2
 refine bodyPost_ret (v := .tuple #[.bool false,.bool true]) ?res rfl ⟨rfl,hB⟩
 case res=>simp [results,Tryz.results69, go_sem]
theorem rsnot_5 {a b:ByteArray} (V1:∀ W,Env W→Calls Tryz.prog 61 #[.agg #[.string a,.string b]] W (BoolOk true W)) (h0:0<a.size) {d:Nat} (hd:d≠45) (hidx:∀ W,(Instr.index 9 (.string a) (.int .i64 0)).run Tryz.prog W = .ok (.int .u8 (d:Int)) W) (hn:40<a.size) (w:World) (he:Env w):Calls Tryz.prog 69 #[.agg #[.string a,.string b]] w (fun e w'=>e = .returned (.tuple #[.bool false,.bool true])∧Below w.heap.size w w'):=by
 have hB:Below w.heap.size w w:=Below.refl _ _
 have MV:=V1
 unfold BoolOk at *
 clear V1
 have hz1:(0:Int)<(a.size:Int):=by omega
 have hd3:((d:Int) == 45)=false:=by rw [beq_eq_false_iff_ne];omega
 clear hd
 have e1:¬ ((a.size:Int)≤40):=by omega
 clear hn
 clear h0
 go_enter Tryz.func69, Tryz.ntmps69
 go_wp2_with fail
 have sB:=hB.size
 refine world_cut (fun X=>Below w.heap.size w X∧Row X w.heap.size (.cells #[.string a,.string b] 23)) ⟨BW,RWh⟩ ?_
 clear hB sB
 rintro V1 ⟨hB,rr⟩
 have sr:=RF2 rr
 refine (MV _ (he.below hB)).mono ?_
 rintro e W2 ⟨rfl,h1⟩
 have st:=St1 hB h1 rr;clear hB h1 rr sr
 obtain ⟨hB,rr⟩:=st
 have sr:=RF2 rr
 go_upto_region 3 with fail
 go_wp2
 refine bodyPost_ret (v := .tuple #[.bool false,.bool true]) ?res rfl ⟨rfl,hB⟩
 case res=>simp [results,Tryz.results69, go_sem]
theorem rsnot_6 {a b:ByteArray} (V1:∀ W,Env W→Calls Tryz.prog 61 #[.agg #[.string a,.string b]] W (BoolOk true W)) (hs:Str a) (h0:0<a.size) (hidx:∀ W,(Instr.index 9 (.string a) (.int .i64 0)).run Tryz.prog W = .ok (.int .u8 (45:Int)) W) (hn:a.size - 1≤40) (hm:40<b.size) (w:World) (he:Env w):Calls Tryz.prog 69 #[.agg #[.string a,.string b]] w (fun e w'=>e = .returned (.tuple #[.bool false,.bool true])∧Below w.heap.size w w'):=by
 have hB:Below w.heap.size w w:=Below.refl _ _
 have MV:=V1
 unfold BoolOk at *
 clear V1
 have hz1:(0:Int)<(a.size:Int):=by omega
 have hw:IntKind.i64.wrap ((a.size:Int) - 1)=(a.size:Int) - 1:=by rw [IntKind.wrap_i64];unfold Str at hs;omega
 have e1:(a.size:Int) - 1≤40:=by omega
 have e2:¬ ((b.size:Int)≤40):=by omega
 clear hn hm
 clear h0
 clear hs
 go_enter Tryz.func69, Tryz.ntmps69
 go_wp2_with fail
 have sB:=hB.size
 refine world_cut (fun X=>Below w.heap.size w X∧Row X w.heap.size (.cells #[.string a,.string b] 23)) ⟨BW,RWh⟩ ?_
 clear hB sB
 rintro V1 ⟨hB,rr⟩
 have sr:=RF2 rr
 refine (MV _ (he.below hB)).mono ?_
 rintro e W2 ⟨rfl,h1⟩
 have st:=St1 hB h1 rr;clear hB h1 rr sr
 obtain ⟨hB,rr⟩:=st
 have sr:=RF2 rr
 go_upto_region 3 with fail
 go_wp2
 refine bodyPost_ret (v := .tuple #[.bool false,.bool true]) ?res rfl ⟨rfl,hB⟩
 case res=>simp [results,Tryz.results69, go_sem,e2]
theorem rsnot_7 {a b:ByteArray} (V1:∀ W,Env W→Calls Tryz.prog 61 #[.agg #[.string a,.string b]] W (BoolOk true W)) (h0:0<a.size) {d:Nat} (hd:d≠45) (hidx:∀ W,(Instr.index 9 (.string a) (.int .i64 0)).run Tryz.prog W = .ok (.int .u8 (d:Int)) W) (hn:a.size≤40) (hm:40<b.size) (w:World) (he:Env w):Calls Tryz.prog 69 #[.agg #[.string a,.string b]] w (fun e w'=>e = .returned (.tuple #[.bool false,.bool true])∧Below w.heap.size w w'):=by
 have hB:Below w.heap.size w w:=Below.refl _ _
 have MV:=V1
 unfold BoolOk at *
 clear V1
 have hz1:(0:Int)<(a.size:Int):=by omega
 have hd3:((d:Int) == 45)=false:=by rw [beq_eq_false_iff_ne];omega
 clear hd
 have e1:(a.size:Int)≤40:=by omega
 have e2:¬ ((b.size:Int)≤40):=by omega
 clear hn hm
 clear h0
 go_enter Tryz.func69, Tryz.ntmps69
 go_wp2_with fail
 have sB:=hB.size
 refine world_cut (fun X=>Below w.heap.size w X∧Row X w.heap.size (.cells #[.string a,.string b] 23)) ⟨BW,RWh⟩ ?_
 clear hB sB
 rintro V1 ⟨hB,rr⟩
 have sr:=RF2 rr
 refine (MV _ (he.below hB)).mono ?_
 rintro e W2 ⟨rfl,h1⟩
 have st:=St1 hB h1 rr;clear hB h1 rr sr
 obtain ⟨hB,rr⟩:=st
 have sr:=RF2 rr
 go_upto_region 3 with fail
 go_wp2
 refine bodyPost_ret (v := .tuple #[.bool false,.bool true]) ?res rfl ⟨rfl,hB⟩
 case res=>simp [results,Tryz.results69, go_sem,e2]
def ShOk (u v:Bool) (w:World) (e:Ending) (w':World):Prop:=e = .returned (.tuple #[.bool u,.bool v])∧Below w.heap.size w w'
def NotSh (a b:ByteArray):Prop:=∃ v,∀ W,Env W→Calls Tryz.prog 67 #[.agg #[.string a,.string b]] W (BoolOk false W)∧Calls Tryz.prog 69 #[.agg #[.string a,.string b]] W (ShOk false v W)
theorem tail_size {z:Int}:(⟨(body (S z).data.toList).toArray⟩:ByteArray).size=(decDigits z.natAbs).length:=by
 have h1:(⟨(body (S z).data.toList).toArray⟩:ByteArray).size=(body (S z).data.toList).length:=by simp [ByteArray.size]
 have h2:(S z).data.toList=itoa z:=is_S z
 rw [h1,h2,body_itoa]
theorem sh_cases (a b:ByteArray) (ha:Str a) (hb:Str b):(∃ q,RatS 40 a b q)∨NotSh a b:=by
 rcases rat_cases a b ha hb with ⟨q,h1,h2,h3⟩ | h
 ·subst h1 h2
  have V:RatS 200 (S q.num) (S (q.den:Int)) q:=⟨rfl,rfl,h3⟩
  have hl:=S_len q.num
  have hm:=S_len (q.den:Int)
  rw [if_neg (by omega),Int.natAbs_natCast,Nat.zero_add] at hm
  obtain ⟨hs0,d,hidx,hd⟩:=S_first q.num
  have tn:=tail_size (z:=q.num)
  by_cases hn:(decDigits q.num.natAbs).length≤40
  ·by_cases hde:(S (q.den:Int)).size≤40
   ·refine .inl ⟨q,rfl,rfl,(dec_lt _ 40 (by decide)).1 hn,?_⟩
    rw [hm] at hde
    have:=(dec_lt _ 40 (by decide)).1 hde
    unfold Dig
    rwa [Int.natAbs_natCast]
   ·refine .inr ⟨true,fun W he=>⟨snot_c (by rw [tn];exact hn) (by omega) (fun W he=>V.prog (by omega) W he) (fun W=>trimS q.num W) W he,?_⟩⟩
    by_cases hz:q.num<0
    ·obtain rfl:d=45:=hd.2 hz
     rw [if_pos hz] at hl
     exact rsnot_6 (fun W he=>V.ref (by omega) W he) ha hs0 hidx (by omega) (by omega) W he
    ·rw [if_neg hz] at hl
     exact rsnot_7 (fun W he=>V.ref (by omega) W he) hs0 (fun h=>hz (hd.1 h)) hidx (by omega) (by omega) W he
  ·refine .inr ⟨true,fun W he=>⟨snot_b (by rw [tn];omega) (fun W he=>V.prog (by omega) W he) (fun W=>trimS q.num W) W he,?_⟩⟩
   by_cases hz:q.num<0
   ·obtain rfl:d=45:=hd.2 hz
    rw [if_pos hz] at hl
    exact rsnot_4 (fun W he=>V.ref (by omega) W he) ha hs0 hidx (by omega) W he
   ·rw [if_neg hz] at hl
    exact rsnot_5 (fun W he=>V.ref (by omega) W he) hs0 (fun h=>hz (hd.1 h)) hidx (by omega) W he
 ·refine .inr ⟨false,fun W he=>⟨snot_a (fun W he=>h.prog W he) W he,?_⟩⟩
  rcases Nat.eq_zero_or_pos a.size with h0 | h0
  ·exact rsnot_1 (fun W he=>h.ref W he) h0 W he
  ·obtain ⟨d,hidx⟩:=str_first a h0
   by_cases hd:d=45
   ·subst hd
    exact rsnot_2 (fun W he=>h.ref W he) ha h0 hidx W he
   ·exact rsnot_3 (fun W he=>h.ref W he) h0 hd hidx W he
theorem RatS.short_prog {a b:ByteArray} {q:Rat} (h:RatS 40 a b q) (W:World) (he:Env W):Calls Tryz.prog 67 #[.agg #[.string a,.string b]] W (BoolOk true W):=by
 obtain ⟨rfl,rfl,hd⟩:=h
 exact dshort hd W he
theorem RatS.short_ref {a b:ByteArray} {q:Rat} (h:RatS 40 a b q) (W:World):Calls Tryz.prog 69 #[.agg #[.string a,.string b]] W (fun e w'=>e = .returned (.tuple #[.bool true,.bool true])∧Below W.heap.size W w'):=by
 obtain ⟨rfl,rfl,hd⟩:=h
 exact r12short hd W
/-- Whatever the strings: what both functions say. -/
theorem sh_any (a b:ByteArray) (ha:Str a) (hb:Str b):∃ u v,(u=true ↔ ∃ q,RatS 40 a b q)∧(∀ W,Env W→Calls Tryz.prog 67 #[.agg #[.string a,.string b]] W (BoolOk u W))∧(∀ W,Env W→Calls Tryz.prog 69 #[.agg #[.string a,.string b]] W (ShOk u v W)):=by
 by_cases h:∃ q,RatS 40 a b q
 ·obtain ⟨q,hq⟩:=h
  exact ⟨true,true,⟨fun _=>⟨q,hq⟩,fun _=>rfl⟩,fun W he=>hq.short_prog W he,fun W _=>hq.short_ref W⟩
 ·obtain ⟨v,hv⟩:=(sh_cases a b ha hb).resolve_left h
  exact ⟨false,v,⟨fun e=>(by cases e),fun e=>absurd e h⟩,fun W he=>(hv W he).1,fun W he=>(hv W he).2⟩
theorem iv_any (a b c d:ByteArray) (ha:Str a) (hb:Str b) (hc:Str c) (hd:Str d):∃ u,(u=true ↔ ∃ i:Iv,RatS 200 a b i.lo∧RatS 200 c d i.hi∧i.Ok)∧(∀ W,Env W→Calls Tryz.prog 68 #[.agg #[.string a,.string b,.string c,.string d]] W (BoolOk u W))∧(∀ W,Env W→Calls Tryz.prog 71 #[.agg #[.string a,.string b,.string c,.string d]] W (BoolOk u W)):=by
 by_cases h:∃ i:Iv,RatS 200 a b i.lo∧RatS 200 c d i.hi∧i.Ok
 ·obtain ⟨i,h1,h2,h3⟩:=h
  refine ⟨true,⟨fun _=>⟨i,h1,h2,h3⟩,fun _=>rfl⟩,fun W he => ?_,fun W he => ?_⟩
  ·obtain ⟨rfl,rfl,d1⟩:=h1
   obtain ⟨rfl,rfl,d2⟩:=h2
   have:=evalid i ⟨d1,d2⟩ W he
   rwa [decide_eq_true (show i.lo≤i.hi from h3)] at this
  ·obtain ⟨rfl,rfl,d1⟩:=h1
   obtain ⟨rfl,rfl,d2⟩:=h2
   exact r5valid ⟨d1,d2⟩ h3 W
 ·have hv:=(iv_cases a b c d ha hb hc hd).resolve_left h
  exact ⟨false,⟨fun e=>(by cases e),fun e=>absurd e h⟩,fun W he=>(hv W he).1,fun W he=>(hv W he).2⟩
theorem rat_any (a b:ByteArray) (ha:Str a) (hb:Str b):∃ u,(u=true ↔ ∃ q,RatS 200 a b q)∧(∀ W,Env W→Calls Tryz.prog 58 #[.agg #[.string a,.string b]] W (BoolOk u W))∧(∀ W,Env W→Calls Tryz.prog 61 #[.agg #[.string a,.string b]] W (BoolOk u W)):=by
 by_cases h:∃ q,RatS 200 a b q
 ·obtain ⟨q,hq⟩:=h
  exact ⟨true,⟨fun _=>⟨q,hq⟩,fun _=>rfl⟩,fun W he=>hq.prog (by omega) W he,fun W he=>hq.ref (by omega) W he⟩
 ·have hv:=(rat_cases a b ha hb).resolve_left h
  exact ⟨false,⟨fun e=>(by cases e),fun e=>absurd e h⟩,fun W he=>(hv W he).1,fun W he=>(hv W he).2⟩
end Go.Proofs.YtnokpldomlmamaaGreatDoor
namespace Go.Proofs.YtnokpldomlmamaaGreatDoor
open Go Go.RowKit Go.Lib Go.Shelf
structure RP where
 t:Int
 a:ByteArray
 b:ByteArray
 c:ByteArray
 d:ByteArray
def rpD (l:List RP) (i:Nat):RP:=l.getD i ⟨0,⟨#[]⟩,⟨#[]⟩,⟨#[]⟩,⟨#[]⟩⟩
theorem rpD_get {l:List RP} {i:Nat} (h:i<l.length):rpD l i=l[i]:=by unfold rpD;rw [List.getD_eq_getElem?_getD,List.getElem?_eq_getElem h];rfl
theorem rpD_mem {l:List RP} {i:Nat} (h:i<l.length):rpD l i ∈ l:=by rw [rpD_get h];exact List.getElem_mem h
def RStr (x:RP):Prop:=IsInt x.t∧Str x.a∧Str x.b∧Str x.c∧Str x.d
def rC (p:RP):List Value:=[.int .i64 p.t,.string p.a,.string p.b,.string p.c,.string p.d]
def rCells (l:List RP):List Value:=l.flatMap rC
theorem rC_length (p:RP):(rC p).length=5:=rfl
theorem rC_one (p:RP):∀ v ∈ rC p,v.oneCell'=true:=by
 intro v hv
 simp only [rC,List.mem_cons,List.not_mem_nil,or_false] at hv
 rcases hv with rfl | rfl | rfl | rfl | rfl <;> rfl
theorem rCells_nil:rCells []=[]:=rfl
theorem rCells_cons (p:RP) (l:List RP):rCells (p :: l)=rC p ++ rCells l:=rfl
theorem rCells_length (l:List RP):(rCells l).length=l.length * 5:=by
 induction l with
 | nil=>rfl
 | cons p l ih=>rw [rCells_cons,List.length_append,ih,rC_length,List.length_cons];omega
theorem rCells_app (l m:List RP):rCells (l ++ m)=rCells l ++ rCells m:=by unfold rCells;simp
theorem rCells_get {l:List RP} {i:Nat} (h:i<l.length) (j:Nat) (hj:j<5):(rCells l)[i * 5+j]? = (rC (rpD l i))[j]? := by
 have e:l=l.take i ++ rpD l i :: l.drop (i+1):=by
  rw [rpD_get h]
  exact (List.take_append_drop i l).symm.trans (by rw [List.drop_eq_getElem_cons h])
 have e2:rCells l=rCells (l.take i) ++ (rC (rpD l i) ++ rCells (l.drop (i+1))):=by
  rw [← rCells_cons,← rCells_app,← e]
 have hl:(rCells (l.take i)).length=i * 5:=by rw [rCells_length,List.length_take,Nat.min_eq_left (by omega)]
 rw [e2,List.getElem?_append_right (by omega),hl,Nat.add_sub_cancel_left,List.getElem?_append_left (by rw [rC_length];exact hj)]
/-- What of a row the walks want. -/
def RAt (W:World) (p:Option Addr) (l:List RP):Prop:=(l=[]∧(p=none∨∃ g,p=some ⟨g,0,none⟩))∨∃ g cur,p=some ⟨g,0,none⟩∧Row W g (.cells cur 32)∧cur.toList.take (l.length * 5)=rCells l
theorem RAt.below {W W':World} {p:Option Addr} {l:List RP} (h:RAt W p l) (hB:Below W.heap.size W W'):RAt W' p l :=
 h.elim .inl fun ⟨g,cur,e,hr,hx⟩ => .inr ⟨g,cur,e,Row.below hr hB,hx⟩
theorem RAt.at {W:World} {p:Option Addr} {l:List RP} (h:RAt W p l) {i:Nat} (hi:i<l.length):∃ g cur,p=some ⟨g,0,none⟩∧Row W g (.cells cur 32)
  ∧ cur[i * 5]? = some (.int .i64 (rpD l i).t)∧cur[i * 5+1]? = some (.string (rpD l i).a)∧cur[i * 5+2]? = some (.string (rpD l i).b)
  ∧ cur[i * 5+3]? = some (.string (rpD l i).c)∧cur[i * 5+4]? = some (.string (rpD l i).d):=by
 rcases h with ⟨rfl,_⟩ | ⟨g,cur,rfl,hr,hx⟩
 ·simp at hi
 ·have key:∀ j,j<5→cur[i * 5+j]? = (rC (rpD l i))[j]? := fun j hj=>by
   rw [← rCells_get hi j hj,← hx,List.getElem?_take,if_pos (by omega),Array.getElem?_toList]
  exact ⟨g,cur,rfl,hr,key 0 (by omega),key 1 (by omega),key 2 (by omega),key 3 (by omega),key 4 (by omega)⟩
theorem RAt.two {W:World} {p:Option Addr} {l:List RP} (h:RAt W p l) {i j:Nat} (hi:i<l.length) (hj:j<l.length):∃ g cur,p=some ⟨g,0,none⟩∧Row W g (.cells cur 32)
  ∧ cur[i * 5]? = some (.int .i64 (rpD l i).t)∧cur[i * 5+1]? = some (.string (rpD l i).a)∧cur[i * 5+2]? = some (.string (rpD l i).b)
  ∧ cur[i * 5+3]? = some (.string (rpD l i).c)∧cur[i * 5+4]? = some (.string (rpD l i).d)∧cur[j * 5]? = some (.int .i64 (rpD l j).t):=by
 obtain ⟨g,cur,hp,hr,h0,h1,h2,h3,h4⟩:=h.at hi
 obtain ⟨g',cur',hp',hr',k0,_⟩:=h.at hj
 rw [hp] at hp'
 simp only [Option.some.injEq,Addr.mk.injEq,and_true] at hp'
 subst hp'
 have e:cur'=cur:=by
  have:=hr.2.symm.trans hr'.2
  simp at this
  exact this.symm
 subst e
 exact ⟨g,cur',hp,hr,h0,h1,h2,h3,h4,k0⟩
theorem own_ratR {W:World} {n k c:Nat} {p:Option Addr} {l:List RP} (h:W.ownsRow n 32 5 (.slice p k c) k (rCells l)) (hl:l.length=k):RAt W p l:=by
 obtain ⟨_,⟨he,hn⟩ | ⟨g,cap,cur,he,_,hg,hc,hm,_,hx⟩⟩:=h
 ·simp only [Value.slice.injEq] at he
  obtain ⟨rfl,_,_⟩:=he
  exact .inl ⟨List.length_eq_zero_iff.1 (by omega),.inl rfl⟩
 ·simp only [Value.slice.injEq] at he
  obtain ⟨rfl,_,_⟩:=he
  exact .inr ⟨g,cur,rfl,⟨(Array.getElem?_eq_some_iff.1 hg).1,hg⟩,by rw [hl];exact hx⟩
/-- The strings of a point. -/
structure PtS (x:RP) (p:Pt):Prop where
 t:x.t=(p.t:Int)
 lo:RatS 40 x.a x.b p.iv.lo
 hi:RatS 40 x.c x.d p.iv.hi
 ok:p.iv.Ok
 max:p.t≤1000000
theorem PtS.cells {x:RP} {p:Pt} (h:PtS x p):rC x=pC p:=by
 unfold rC pC
 rw [h.t,h.lo.1,h.lo.2.1,h.hi.1,h.hi.2.1]
def ptG (x:RP):Prop:=∃ p,PtS x p
/-- The strings of a history. -/
structure HistS (a b:ByteArray) (l:List RP) (h:Hist):Prop where
 rate:RatS 40 a b h.rate
 pos:0≤h.rate
 few:l.length≤64
 len:h.pts.length=l.length
 pts:∀ i,i<l.length→PtS (rpD l i) (ptD h.pts i)
 sorted:∀ i j,i≤j→j<l.length→(rpD l i).t≤(rpD l j).t
theorem HistS.cells {a b:ByteArray} {l:List RP} {h:Hist} (s:HistS a b l h):rCells l=pCells h.pts:=by
 have key:∀ k,k≤l.length→rCells (l.take k)=pCells (h.pts.take k):=by
  intro k
  induction k with
  | zero=>intro _;rfl
  | succ k ih =>
   intro hk
   have h1:l.take (k+1)=l.take k ++ [rpD l k]:=by rw [List.take_add_one,List.getElem?_eq_getElem (by omega),rpD_get (by omega)];rfl
   have h2:h.pts.take (k+1)=h.pts.take k ++ [ptD h.pts k]:=by
    have hk2:k<h.pts.length:=by have:=s.len;omega
    rw [List.take_add_one,List.getElem?_eq_getElem hk2]
    congr 1
    unfold ptD
    rw [List.getD_eq_getElem?_getD,List.getElem?_eq_getElem hk2]
    rfl
   rw [h1,h2,rCells_app,pCells_app,ih (by omega),rCells_cons,pCells_cons,(s.pts k (by omega)).cells]
   rfl
 have:=key l.length (Nat.le_refl _)
 rwa [List.take_length,← s.len,List.take_length] at this
theorem HistS.ok {a b:ByteArray} {l:List RP} {h:Hist} (s:HistS a b l h):Hist.Ok h:=by
 have key:∀ p,p ∈ h.pts→∃ i,i<l.length∧ptD h.pts i=p:=fun p hp=>by
  obtain ⟨i,hi,e⟩:=mem_ptD hp
  exact ⟨i,by rw [← s.len];exact hi,e⟩
 refine ⟨s.pos,s.rate.2.2,by rw [s.len];exact s.few,fun p hp => ?_,fun p hp => ?_,?_⟩
 ·obtain ⟨i,hi,rfl⟩:=key p hp
  exact (s.pts i hi).max
 ·obtain ⟨i,hi,rfl⟩:=key p hp
  exact ⟨(s.pts i hi).ok,(s.pts i hi).lo.2.2,(s.pts i hi).hi.2.2⟩
 ·refine List.pairwise_iff_getElem.2 fun i j hi hj hij => ?_
  have e:∀ k (hk:k<h.pts.length),h.pts[k]=ptD h.pts k:=fun k hk=>by unfold ptD;rw [List.getD_eq_getElem?_getD,List.getElem?_eq_getElem hk];rfl
  rw [e i hi,e j hj]
  have h1:=s.sorted i j (by omega) (by rw [← s.len];exact hj)
  rw [(s.pts i (by rw [← s.len];exact hi)).t,(s.pts j (by rw [← s.len];exact hj)).t] at h1
  omega
theorem HistS.at {a b:ByteArray} {l:List RP} {h:Hist} (s:HistS a b l h) {W:World} {p:Option Addr} (r:RAt W p l):PAt W p h.pts:=by
 rcases r with ⟨rfl,r⟩ | ⟨g,cur,rfl,hr,hx⟩
 ·exact .inl ⟨List.length_eq_zero_iff.1 s.len,r⟩
 ·exact .inr ⟨g,cur,rfl,hr,by rw [s.len,← s.cells];exact hx⟩
/-- The first points are right, and in order. -/
structure UpG (l:List RP) (i t:Nat):Prop where
 pts:∀ j,j<i→ptG (rpD l j)
 le:∀ j,j<i→(rpD l j).t≤(t:Int)
 asc:∀ j k,j≤k→k<i→(rpD l j).t≤(rpD l k).t
theorem UpG.zero (l:List RP):UpG l 0 0:=⟨fun _ h=>absurd h (by omega),fun _ h=>absurd h (by omega),fun _ _ _ h=>absurd h (by omega)⟩
theorem UpG.succ {l:List RP} {i t u:Nat} (h:UpG l i t) (hu:(rpD l i).t=(u:Int)) (htu:(t:Int)≤(u:Int)) (hg:ptG (rpD l i)):UpG l (i+1) u:=by
 refine ⟨fun j hj => ?_,fun j hj => ?_,fun j k hjk hk => ?_⟩
 ·rcases Nat.lt_or_ge j i with h1 | h1
  ·exact h.pts j h1
  ·obtain rfl:j=i:=by omega
   exact hg
 ·rcases Nat.lt_or_ge j i with h1 | h1
  ·have:=h.le j h1;omega
  ·obtain rfl:j=i:=by omega
   omega
 ·rcases Nat.lt_or_ge k i with h1 | h1
  ·exact h.asc j k hjk h1
  ·obtain rfl:k=i:=by omega
   rcases Nat.lt_or_ge j k with h2 | h2
   ·have:=h.le j h2;omega
   ·obtain rfl:j=k:=by omega
    exact Int.le_refl _
theorem UpG.hist {a b:ByteArray} {l:List RP} {t:Nat} {r:Rat} (h:UpG l l.length t) (hr:RatS 40 a b r) (h0:0≤r) (hf:l.length≤64):∃ H,HistS a b l H:=by
 have key:∃ f:Nat→Pt,∀ j,j<l.length→PtS (rpD l j) (f j):=by
  refine ⟨fun j=>if hj:j<l.length then (h.pts j hj).choose else ⟨0,⟨0,0⟩⟩,fun j hj => ?_⟩
  simp only [hj,dite_true]
  exact (h.pts j hj).choose_spec
 obtain ⟨f,hF⟩:=key
 refine ⟨⟨r,(List.range l.length).map f⟩,hr,h0,hf,by simp,fun i hi => ?_,fun i j hij hj=>h.asc i j hij hj⟩
 have:ptD ((List.range l.length).map f) i=f i:=by
  unfold ptD
  rw [List.getD_eq_getElem?_getD,List.getElem?_map,List.getElem?_range hi]
  rfl
 rw [this]
 exact hF i hi
theorem ptG_of {x:RP} (h0:0≤x.t) (h1:x.t≤1000000) (hi:∃ i:Iv,RatS 200 x.a x.b i.lo∧RatS 200 x.c x.d i.hi∧i.Ok) (hl:∃ q,RatS 40 x.a x.b q) (hh:∃ q,RatS 40 x.c x.d q):ptG x:=by
 obtain ⟨i,h2,h3,h4⟩:=hi
 obtain ⟨p,hp⟩:=hl
 obtain ⟨q,hq⟩:=hh
 have u:∀ {k m:Nat} {a b:ByteArray} {p q:Rat},RatS k a b p→RatS m a b q→p=q:=fun {k m a b p q} h1 h2=>by
  have e1:p.num=q.num:=S_inj (h1.1.symm.trans h2.1)
  have e2:(p.den:Int)=(q.den:Int):=S_inj (h1.2.1.symm.trans h2.2.1)
  exact Rat.ext e1 (by exact_mod_cast e2)
 obtain rfl:=u h2 hp
 obtain rfl:=u h3 hq
 exact ⟨⟨x.t.toNat,i⟩,by simp only;omega,hp,hq,h4,by simp only;omega⟩
 where S_inj {x y:Int} (h:S x=S y):x=y:=itoa_inj (by rw [← is_S x,← is_S y,h])
end Go.Proofs.YtnokpldomlmamaaGreatDoor
