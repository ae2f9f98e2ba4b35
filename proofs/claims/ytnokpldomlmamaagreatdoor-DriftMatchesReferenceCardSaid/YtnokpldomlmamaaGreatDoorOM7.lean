/-
 Where a history is not valid; the reference's At ahead of its loops; its within; its Until by the contracts of Known and within.
-/
import Derived.Test.YtnokpldomlmamaaGreatDoorOM6
import Derived.Test.YtnokpldomlmamaaGreatDoorOR12Made
set_option linter.unusedSimpArgs false
set_option linter.unusedVariables false
set_option maxRecDepth 100000
set_option maxHeartbeats 16000000
namespace Go.Proofs.YtnokpldomlmamaaGreatDoor
open Go Go.RowKit Go.Lib Go.Shelf
def ZHist (w:World) (e:Ending) (w':World):Prop:=e = .returned (.agg #[.string ⟨#[]⟩,.string ⟨#[]⟩,.slice none 0 0])∧Below w.heap.size w w'
def AddErr (w:World) (e:Ending) (w':World):Prop:=e = .returned (.tuple #[.agg #[.string ⟨#[]⟩,.string ⟨#[]⟩,.slice none 0 0],.int .i64 120])∧Below w.heap.size w w'
def NilOk (w:World) (e:Ending) (w':World):Prop:=e = .returned (.slice none 0 0)∧Below w.heap.size w w'
theorem datno {a b:ByteArray} {p:Option Addr} {n c:Nat} {t:Int} (w:World) (HV:∀ W,Below w.heap.size w W→Calls Tryz.prog 22 #[.agg #[.string a,.string b,.slice p n c]] W (BoolOk false W)):Calls Tryz.prog 11 #[.agg #[.string a,.string b,.slice p n c],.int .i64 t] w (AtErr w):=by
 have hB:Below w.heap.size w w:=Below.refl _ _
 have MV:=HV
 unfold BoolOk at MV
 clear HV
 unfold AtErr
 go_enter Tryz.func11, Tryz.ntmps11
 go_wp2_with fail
 have d0_o:w.heap.size≤w.heap.size+1:=by have:=hB.size;omega
 have d0_e:w.heap.size≤w.heap.size+1+1:=by have:=hB.size;omega
 have sB:=hB.size
 refine world_cut (fun X=>Below w.heap.size w X∧Row X w.heap.size (.cells #[.string a,.string b,.slice p n c] 26)∧Row X (w.heap.size+1) (.cells #[.string ⟨#[]⟩,.string ⟨#[]⟩,.string ⟨#[]⟩,.string ⟨#[]⟩] 30)∧Row X (w.heap.size+1+1) (.cells #[.int .i64 0] 40)) ⟨BW,RWh,RWh,RWh⟩ ?_
 clear hB sB
 rintro V1 ⟨hB,rh,ro,re⟩
 have sh:=RF3 rh
 have so:=RFz4 ro
 have se:=RFz1 re
 refine (MV _ hB).mono ?_
 rintro e W2 ⟨rfl,h1⟩
 have stp:=St3 hB h1 rh ro re;clear hB h1 rh sh ro so re se
 obtain ⟨hB,rh,ro,re⟩:=stp
 have sh:=RF3 rh
 have so:=RFz4 ro
 have se:=RFz1 re
 go_wp2_with fail
 have sB:=hB.size
 refine post_cut (fun X=>Below w.heap.size w X∧Row X (w.heap.size+1) (.cells #[.string ⟨#[]⟩,.string ⟨#[]⟩,.string ⟨#[]⟩,.string ⟨#[]⟩] 30)∧Row X (w.heap.size+1+1) (.cells #[.int .i64 120] 40)) ⟨BW,RWh,RWh⟩ ?_
 clear rh
 clear sh
 clear ro
 clear so
 clear re
 clear se
 clear hB sB
 rintro V3 ⟨hB,ro,re⟩
 have so:=RFz4 ro
 have se:=RFz1 re
 refine bodyPost_ret (v := .tuple #[.agg #[.string ⟨#[]⟩,.string ⟨#[]⟩,.string ⟨#[]⟩,.string ⟨#[]⟩],.int .i64 120]) ?res rfl ⟨rfl,hB⟩
 case res=>simp [results,Tryz.results11, go_sem,so,se]
theorem dknownno {a b:ByteArray} {p:Option Addr} {n c:Nat} {t:Int} (w:World) (HV:∀ W,Below w.heap.size w W→Calls Tryz.prog 22 #[.agg #[.string a,.string b,.slice p n c]] W (BoolOk false W)):Calls Tryz.prog 16 #[.agg #[.string a,.string b,.slice p n c],.int .i64 t] w (ZHist w):=by
 have hB:Below w.heap.size w w:=Below.refl _ _
 have MV:=HV
 unfold BoolOk at MV
 clear HV
 unfold ZHist
 go_enter Tryz.func16, Tryz.ntmps16
 go_wp2_with fail
 have d0_o:w.heap.size≤w.heap.size+1+1:=by have:=hB.size;omega
 have sB:=hB.size
 refine world_cut (fun X=>Below w.heap.size w X∧Row X w.heap.size (.cells #[.string a,.string b,.slice p n c] 26)∧Row X (w.heap.size+1) (.cells #[.int .i64 t] 3)∧Row X (w.heap.size+1+1) (.cells #[.string ⟨#[]⟩,.string ⟨#[]⟩,.slice none 0 0] 26)) ⟨BW,RWh,RWh,RWh⟩ ?_
 clear hB sB
 rintro V1 ⟨hB,rh,rt,ro⟩
 have sh:=RF3 rh
 have st:=RF1 rt
 have so:=RFz3 ro
 refine (MV _ hB).mono ?_
 rintro e W2 ⟨rfl,h1⟩
 have stp:=St3 hB h1 rh rt ro;clear hB h1 rh sh rt st ro so
 obtain ⟨hB,rh,rt,ro⟩:=stp
 have sh:=RF3 rh
 have st:=RF1 rt
 have so:=RFz3 ro
 go_wp2_with fail
 have sB:=hB.size
 refine post_cut (fun X=>Below w.heap.size w X∧Row X (w.heap.size+1+1) (.cells #[.string ⟨#[]⟩,.string ⟨#[]⟩,.slice none 0 0] 26)) ⟨BW,RWh⟩ ?_
 clear rh
 clear sh
 clear rt
 clear st
 clear ro
 clear so
 clear hB sB
 rintro V3 ⟨hB,ro⟩
 have so:=RFz3 ro
 refine bodyPost_ret (v := .agg #[.string ⟨#[]⟩,.string ⟨#[]⟩,.slice none 0 0]) ?res rfl ⟨rfl,hB⟩
 case res=>simp [results,Tryz.results16, go_sem,so]
theorem daddno {a b:ByteArray} {p:Option Addr} {n c:Nat} {xt:Int} {xa xb xc xd:ByteArray} (w:World) (HV:∀ W,Below w.heap.size w W→Calls Tryz.prog 22 #[.agg #[.string a,.string b,.slice p n c]] W (BoolOk false W)):Calls Tryz.prog 18 #[.agg #[.string a,.string b,.slice p n c],.agg #[.int .i64 xt,.string xa,.string xb,.string xc,.string xd]] w (AddErr w):=by
 have hB:Below w.heap.size w w:=Below.refl _ _
 have MV:=HV
 unfold BoolOk at MV
 clear HV
 unfold AddErr
 go_enter Tryz.func18, Tryz.ntmps18
 go_wp2_with fail
 have d0_o:w.heap.size≤w.heap.size+1+1:=by have:=hB.size;omega
 have sB:=hB.size
 refine world_cut (fun X=>Below w.heap.size w X∧Row X w.heap.size (.cells #[.string a,.string b,.slice p n c] 26)∧Row X (w.heap.size+1) (.cells #[.int .i64 xt,.string xa,.string xb,.string xc,.string xd] 32)∧Row X (w.heap.size+1+1) (.cells #[.string ⟨#[]⟩,.string ⟨#[]⟩,.slice none 0 0] 26)) ⟨BW,RWh,RWh,RWh⟩ ?_
 clear hB sB
 rintro V1 ⟨hB,rh,rq,ro⟩
 have sh:=RF3 rh
 have sq:=RF5 rq
 have so:=RFz3 ro
 refine (MV _ hB).mono ?_
 rintro e W2 ⟨rfl,h1⟩
 have stp:=St3 hB h1 rh rq ro;clear hB h1 rh sh rq sq ro so
 obtain ⟨hB,rh,rq,ro⟩:=stp
 have sh:=RF3 rh
 have sq:=RF5 rq
 have so:=RFz3 ro
 go_wp2_with fail
 have sB:=hB.size
 refine post_cut (fun X=>Below w.heap.size w X∧Row X (w.heap.size+1+1) (.cells #[.string ⟨#[]⟩,.string ⟨#[]⟩,.slice none 0 0] 26)) ⟨BW,RWh⟩ ?_
 clear rh
 clear sh
 clear rq
 clear sq
 clear ro
 clear so
 clear hB sB
 rintro V3 ⟨hB,ro⟩
 have so:=RFz3 ro
 refine bodyPost_ret (v := .tuple #[.agg #[.string ⟨#[]⟩,.string ⟨#[]⟩,.slice none 0 0],.int .i64 120]) ?res rfl ⟨rfl,hB⟩
 case res=>simp [results,Tryz.results18, go_sem,so]
theorem dconsno {a b:ByteArray} {p:Option Addr} {n c:Nat} (w:World) (HV:∀ W,Below w.heap.size w W→Calls Tryz.prog 22 #[.agg #[.string a,.string b,.slice p n c]] W (BoolOk false W)):Calls Tryz.prog 20 #[.agg #[.string a,.string b,.slice p n c]] w (NilOk w):=by
 have hB:Below w.heap.size w w:=Below.refl _ _
 have MV:=HV
 unfold BoolOk at MV
 clear HV
 unfold NilOk
 go_enter Tryz.func20, Tryz.ntmps20
 go_wp2_with fail
 have d0_o:w.heap.size≤w.heap.size+1:=by have:=hB.size;omega
 have sB:=hB.size
 refine world_cut (fun X=>Below w.heap.size w X∧Row X w.heap.size (.cells #[.string a,.string b,.slice p n c] 26)∧Row X (w.heap.size+1) (.cells #[.slice none 0 0] 49)) ⟨BW,RWh,RWh⟩ ?_
 clear hB sB
 rintro V1 ⟨hB,rh,ro⟩
 have sh:=RF3 rh
 have so:=RFz1 ro
 refine (MV _ hB).mono ?_
 rintro e W2 ⟨rfl,h1⟩
 have stp:=St2 hB h1 rh ro;clear hB h1 rh sh ro so
 obtain ⟨hB,rh,ro⟩:=stp
 have sh:=RF3 rh
 have so:=RFz1 ro
 go_wp2_with fail
 have sB:=hB.size
 refine post_cut (fun X=>Below w.heap.size w X∧Row X (w.heap.size+1) (.cells #[.slice none 0 0] 49)) ⟨BW,RWh⟩ ?_
 clear rh
 clear sh
 clear ro
 clear so
 clear hB sB
 rintro V3 ⟨hB,ro⟩
 have so:=RFz1 ro
 refine bodyPost_ret (v := .slice none 0 0) ?res rfl ⟨rfl,hB⟩
 case res=>simp [results,Tryz.results20, go_sem,so]
theorem r12atno {a b:ByteArray} {p:Option Addr} {n c:Nat} {t:Int} (w:World) (HV:∀ W,Below w.heap.size w W→Calls Tryz.prog 23 #[.agg #[.string a,.string b,.slice p n c]] W (BoolOk false W)):Calls Tryz.prog 12 #[.agg #[.string a,.string b,.slice p n c],.int .i64 t] w (AtErr w):=by
 have hB:Below w.heap.size w w:=Below.refl _ _
 have MV:=HV
 unfold BoolOk at MV
 clear HV
 unfold AtErr
 go_enter Tryz.func12, Tryz.ntmps12
 go_wp2_with fail
 have d0_o:w.heap.size≤w.heap.size+1:=by have:=hB.size;omega
 have sB:=hB.size
 refine world_cut (fun X=>Below w.heap.size w X∧Row X w.heap.size (.cells #[.string a,.string b,.slice p n c] 26)∧Row X (w.heap.size+1) (.cells #[.string ⟨#[]⟩,.string ⟨#[]⟩,.string ⟨#[]⟩,.string ⟨#[]⟩] 30)) ⟨BW,RWh,RWh⟩ ?_
 clear hB sB
 rintro V1 ⟨hB,rh,ro⟩
 have sh:=RF3 rh
 have so:=RFz4 ro
 refine (MV _ hB).mono ?_
 rintro e W2 ⟨rfl,h1⟩
 have stp:=St2 hB h1 rh ro;clear hB h1 rh sh ro so
 obtain ⟨hB,rh,ro⟩:=stp
 have sh:=RF3 rh
 have so:=RFz4 ro
 go_wp2_with fail
 have sB:=hB.size
 refine post_cut (fun X=>Below w.heap.size w X∧Row X (w.heap.size+1) (.cells #[.string ⟨#[]⟩,.string ⟨#[]⟩,.string ⟨#[]⟩,.string ⟨#[]⟩] 30)) ⟨BW,RWh⟩ ?_
 clear rh
 clear sh
 clear ro
 clear so
 clear hB sB
 rintro V3 ⟨hB,ro⟩
 have so:=RFz4 ro
 refine bodyPost_ret (v := .tuple #[.agg #[.string ⟨#[]⟩,.string ⟨#[]⟩,.string ⟨#[]⟩,.string ⟨#[]⟩],.int .i64 120]) ?res rfl ⟨rfl,hB⟩
 case res=>simp [results,Tryz.results12, go_sem,so]
theorem r12knownno {a b:ByteArray} {p:Option Addr} {n c:Nat} {t:Int} (w:World) (HV:∀ W,Below w.heap.size w W→Calls Tryz.prog 23 #[.agg #[.string a,.string b,.slice p n c]] W (BoolOk false W)):Calls Tryz.prog 17 #[.agg #[.string a,.string b,.slice p n c],.int .i64 t] w (ZHist w):=by
 have hB:Below w.heap.size w w:=Below.refl _ _
 have MV:=HV
 unfold BoolOk at MV
 clear HV
 unfold ZHist
 go_enter Tryz.func17, Tryz.ntmps17
 go_wp2_with fail
 have d0_o:w.heap.size≤w.heap.size+1:=by have:=hB.size;omega
 have sB:=hB.size
 refine world_cut (fun X=>Below w.heap.size w X∧Row X w.heap.size (.cells #[.string a,.string b,.slice p n c] 26)∧Row X (w.heap.size+1) (.cells #[.string ⟨#[]⟩,.string ⟨#[]⟩,.slice none 0 0] 26)) ⟨BW,RWh,RWh⟩ ?_
 clear hB sB
 rintro V1 ⟨hB,rh,ro⟩
 have sh:=RF3 rh
 have so:=RFz3 ro
 refine (MV _ hB).mono ?_
 rintro e W2 ⟨rfl,h1⟩
 have stp:=St2 hB h1 rh ro;clear hB h1 rh sh ro so
 obtain ⟨hB,rh,ro⟩:=stp
 have sh:=RF3 rh
 have so:=RFz3 ro
 go_wp2_with fail
 have sB:=hB.size
 refine post_cut (fun X=>Below w.heap.size w X∧Row X (w.heap.size+1) (.cells #[.string ⟨#[]⟩,.string ⟨#[]⟩,.slice none 0 0] 26)) ⟨BW,RWh⟩ ?_
 clear rh
 clear sh
 clear ro
 clear so
 clear hB sB
 rintro V3 ⟨hB,ro⟩
 have so:=RFz3 ro
 refine bodyPost_ret (v := .agg #[.string ⟨#[]⟩,.string ⟨#[]⟩,.slice none 0 0]) ?res rfl ⟨rfl,hB⟩
 case res=>simp [results,Tryz.results17, go_sem,so]
theorem r12addno {a b:ByteArray} {p:Option Addr} {n c:Nat} {xt:Int} {xa xb xc xd:ByteArray} (w:World) (HV:∀ W,Below w.heap.size w W→Calls Tryz.prog 23 #[.agg #[.string a,.string b,.slice p n c]] W (BoolOk false W)):Calls Tryz.prog 19 #[.agg #[.string a,.string b,.slice p n c],.agg #[.int .i64 xt,.string xa,.string xb,.string xc,.string xd]] w (AddErr w):=by
 have hB:Below w.heap.size w w:=Below.refl _ _
 have MV:=HV
 unfold BoolOk at MV
 clear HV
 unfold AddErr
 go_enter Tryz.func19, Tryz.ntmps19
 go_wp2_with fail
 have d0_o:w.heap.size≤w.heap.size+1+1:=by have:=hB.size;omega
 have sB:=hB.size
 refine world_cut (fun X=>Below w.heap.size w X∧Row X w.heap.size (.cells #[.string a,.string b,.slice p n c] 26)∧Row X (w.heap.size+1) (.cells #[.int .i64 xt,.string xa,.string xb,.string xc,.string xd] 32)∧Row X (w.heap.size+1+1) (.cells #[.string ⟨#[]⟩,.string ⟨#[]⟩,.slice none 0 0] 26)) ⟨BW,RWh,RWh,RWh⟩ ?_
 clear hB sB
 rintro V1 ⟨hB,rh,rq,ro⟩
 have sh:=RF3 rh
 have sq:=RF5 rq
 have so:=RFz3 ro
 refine (MV _ hB).mono ?_
 rintro e W2 ⟨rfl,h1⟩
 have stp:=St3 hB h1 rh rq ro;clear hB h1 rh sh rq sq ro so
 obtain ⟨hB,rh,rq,ro⟩:=stp
 have sh:=RF3 rh
 have sq:=RF5 rq
 have so:=RFz3 ro
 go_wp2_with fail
 have sB:=hB.size
 refine post_cut (fun X=>Below w.heap.size w X∧Row X (w.heap.size+1+1) (.cells #[.string ⟨#[]⟩,.string ⟨#[]⟩,.slice none 0 0] 26)) ⟨BW,RWh⟩ ?_
 clear rh
 clear sh
 clear rq
 clear sq
 clear ro
 clear so
 clear hB sB
 rintro V3 ⟨hB,ro⟩
 have so:=RFz3 ro
 refine bodyPost_ret (v := .tuple #[.agg #[.string ⟨#[]⟩,.string ⟨#[]⟩,.slice none 0 0],.int .i64 120]) ?res rfl ⟨rfl,hB⟩
 case res=>simp [results,Tryz.results19, go_sem,so]
theorem r12consno {a b:ByteArray} {p:Option Addr} {n c:Nat} (w:World) (HV:∀ W,Below w.heap.size w W→Calls Tryz.prog 23 #[.agg #[.string a,.string b,.slice p n c]] W (BoolOk false W)):Calls Tryz.prog 21 #[.agg #[.string a,.string b,.slice p n c]] w (NilOk w):=by
 have hB:Below w.heap.size w w:=Below.refl _ _
 have MV:=HV
 unfold BoolOk at MV
 clear HV
 unfold NilOk
 go_enter Tryz.func21, Tryz.ntmps21
 go_wp2_with fail
 have sB:=hB.size
 refine world_cut (fun X=>Below w.heap.size w X∧Row X w.heap.size (.cells #[.string a,.string b,.slice p n c] 26)) ⟨BW,RWh⟩ ?_
 clear hB sB
 rintro V1 ⟨hB,rh⟩
 have sh:=RF3 rh
 refine (MV _ hB).mono ?_
 rintro e W2 ⟨rfl,h1⟩
 have stp:=St1 hB h1 rh;clear hB h1 rh sh
 obtain ⟨hB,rh⟩:=stp
 have sh:=RF3 rh
 go_wp2
 go_ret
 exact ⟨rfl,hB⟩
theorem r12at_empty {a b:ByteArray} {p:Option Addr} {n c:Nat} {t:Int}  (w:World) (HV:∀ W,Below w.heap.size w W→Calls Tryz.prog 23 #[.agg #[.string a,.string b,.slice p 0 c]] W (BoolOk true W)):Calls Tryz.prog 12 #[.agg #[.string a,.string b,.slice p 0 c],.int .i64 t] w (AtErr w):=by
 have hB:Below w.heap.size w w:=Below.refl _ _
 have MV:=HV
 unfold BoolOk at MV
 clear HV
 unfold AtErr
 go_enter Tryz.func12, Tryz.ntmps12
 go_wp2_with fail
 have d0_o:w.heap.size≤w.heap.size+1:=by have:=hB.size;omega
 have sB:=hB.size
 refine world_cut (fun X=>Below w.heap.size w X∧Row X w.heap.size (.cells #[.string a,.string b,.slice p 0 c] 26)∧Row X (w.heap.size+1) (.cells #[.string ⟨#[]⟩,.string ⟨#[]⟩,.string ⟨#[]⟩,.string ⟨#[]⟩] 30)) ⟨BW,RWh,RWh⟩ ?_
 clear hB sB
 rintro V1 ⟨hB,rh,ro⟩
 have sh:=RF3 rh
 have so:=RFz4 ro
 refine (MV _ hB).mono ?_
 rintro e W2 ⟨rfl,h1⟩
 have stp:=St2 hB h1 rh ro;clear hB h1 rh sh ro so
 obtain ⟨hB,rh,ro⟩:=stp
 have sh:=RF3 rh
 have so:=RFz4 ro
 go_wp2_with fail
 have sB:=hB.size
 refine post_cut (fun X=>Below w.heap.size w X∧Row X (w.heap.size+1) (.cells #[.string ⟨#[]⟩,.string ⟨#[]⟩,.string ⟨#[]⟩,.string ⟨#[]⟩] 30)) ⟨BW,RWh⟩ ?_
 clear rh
 clear sh
 clear ro
 clear so
 clear hB sB
 rintro V3 ⟨hB,ro⟩
 have so:=RFz4 ro
 refine bodyPost_ret (v := .tuple #[.agg #[.string ⟨#[]⟩,.string ⟨#[]⟩,.string ⟨#[]⟩,.string ⟨#[]⟩],.int .i64 120]) ?res rfl ⟨rfl,hB⟩
 case res=>simp [results,Tryz.results12, go_sem,so]
theorem r12at_low {a b:ByteArray} {p:Option Addr} {n c:Nat} {t:Int} (hn:0<n) (ht:t<0) (w:World) (HV:∀ W,Below w.heap.size w W→Calls Tryz.prog 23 #[.agg #[.string a,.string b,.slice p n c]] W (BoolOk true W)):Calls Tryz.prog 12 #[.agg #[.string a,.string b,.slice p n c],.int .i64 t] w (AtErr w):=by
 have hB:Below w.heap.size w w:=Below.refl _ _
 have MV:=HV
 unfold BoolOk at MV
 clear HV
 unfold AtErr
 have hn0:((n:Int) == 0)=false:=by rw [beq_eq_false_iff_ne];omega
 have ht0:decide (t<0)=true:=decide_eq_true ht
 clear hn ht
 go_enter Tryz.func12, Tryz.ntmps12
 go_wp2_with fail
 have d0_o:w.heap.size≤w.heap.size+1:=by have:=hB.size;omega
 have sB:=hB.size
 refine world_cut (fun X=>Below w.heap.size w X∧Row X w.heap.size (.cells #[.string a,.string b,.slice p n c] 26)∧Row X (w.heap.size+1) (.cells #[.string ⟨#[]⟩,.string ⟨#[]⟩,.string ⟨#[]⟩,.string ⟨#[]⟩] 30)) ⟨BW,RWh,RWh⟩ ?_
 clear hB sB
 rintro V1 ⟨hB,rh,ro⟩
 have sh:=RF3 rh
 have so:=RFz4 ro
 refine (MV _ hB).mono ?_
 rintro e W2 ⟨rfl,h1⟩
 have stp:=St2 hB h1 rh ro;clear hB h1 rh sh ro so
 obtain ⟨hB,rh,ro⟩:=stp
 have sh:=RF3 rh
 have so:=RFz4 ro
 go_wp2_with fail
 have sB:=hB.size
 refine post_cut (fun X=>Below w.heap.size w X∧Row X (w.heap.size+1) (.cells #[.string ⟨#[]⟩,.string ⟨#[]⟩,.string ⟨#[]⟩,.string ⟨#[]⟩] 30)) ⟨BW,RWh⟩ ?_
 clear rh
 clear sh
 clear ro
 clear so
 clear hB sB
 rintro V3 ⟨hB,ro⟩
 have so:=RFz4 ro
 refine bodyPost_ret (v := .tuple #[.agg #[.string ⟨#[]⟩,.string ⟨#[]⟩,.string ⟨#[]⟩,.string ⟨#[]⟩],.int .i64 120]) ?res rfl ⟨rfl,hB⟩
 case res=>simp [results,Tryz.results12, go_sem,so]
theorem r12at_high {a b:ByteArray} {p:Option Addr} {n c:Nat} {t:Int} (hn:0<n) (ht:1000000<t) (w:World) (HV:∀ W,Below w.heap.size w W→Calls Tryz.prog 23 #[.agg #[.string a,.string b,.slice p n c]] W (BoolOk true W)):Calls Tryz.prog 12 #[.agg #[.string a,.string b,.slice p n c],.int .i64 t] w (AtErr w):=by
 have hB:Below w.heap.size w w:=Below.refl _ _
 have MV:=HV
 unfold BoolOk at MV
 clear HV
 unfold AtErr
 have hn0:((n:Int) == 0)=false:=by rw [beq_eq_false_iff_ne];omega
 have ht0:decide (t<0)=false:=decide_eq_false (by omega)
 have ht1:decide (1000000<t)=true:=decide_eq_true ht
 clear hn ht
 go_enter Tryz.func12, Tryz.ntmps12
 go_wp2_with fail
 have d0_o:w.heap.size≤w.heap.size+1:=by have:=hB.size;omega
 have sB:=hB.size
 refine world_cut (fun X=>Below w.heap.size w X∧Row X w.heap.size (.cells #[.string a,.string b,.slice p n c] 26)∧Row X (w.heap.size+1) (.cells #[.string ⟨#[]⟩,.string ⟨#[]⟩,.string ⟨#[]⟩,.string ⟨#[]⟩] 30)) ⟨BW,RWh,RWh⟩ ?_
 clear hB sB
 rintro V1 ⟨hB,rh,ro⟩
 have sh:=RF3 rh
 have so:=RFz4 ro
 refine (MV _ hB).mono ?_
 rintro e W2 ⟨rfl,h1⟩
 have stp:=St2 hB h1 rh ro;clear hB h1 rh sh ro so
 obtain ⟨hB,rh,ro⟩:=stp
 have sh:=RF3 rh
 have so:=RFz4 ro
 go_wp2_with fail
 have sB:=hB.size
 refine post_cut (fun X=>Below w.heap.size w X∧Row X (w.heap.size+1) (.cells #[.string ⟨#[]⟩,.string ⟨#[]⟩,.string ⟨#[]⟩,.string ⟨#[]⟩] 30)) ⟨BW,RWh⟩ ?_
 clear rh
 clear sh
 clear ro
 clear so
 clear hB sB
 rintro V3 ⟨hB,ro⟩
 have so:=RFz4 ro
 refine bodyPost_ret (v := .tuple #[.agg #[.string ⟨#[]⟩,.string ⟨#[]⟩,.string ⟨#[]⟩,.string ⟨#[]⟩],.int .i64 120]) ?res rfl ⟨rfl,hB⟩
 case res=>simp [results,Tryz.results12, go_sem,so]
def WithOk (b:Bool) (e1:Int) (w:World) (e:Ending) (w':World):Prop:=e = .returned (.tuple #[.bool b,.int .i64 e1])∧Below w.heap.size w w'
theorem within_err {a b x1 x2:ByteArray} {p:Option Addr} {n c:Nat} {t:Int} (w:World) (HA:∀ W,Below w.heap.size w W→Calls Tryz.prog 12 #[.agg #[.string a,.string b,.slice p n c],.int .i64 t] W (AtErr W)):Calls Tryz.prog 62 #[.agg #[.string a,.string b,.slice p n c],.int .i64 t,.agg #[.string x1,.string x2]] w (WithOk false 120 w):=by
 have hB:Below w.heap.size w w:=Below.refl _ _
 have MA:=HA
 unfold AtErr at MA
 unfold WithOk
 clear HA
 go_enter Tryz.func62, Tryz.ntmps62
 go_wp2_with fail
 have sB:=hB.size
 refine world_cut (fun X=>Below w.heap.size w X∧Row X (w.heap.size+1) (.cells #[.string x1,.string x2] 23)) ⟨BW,RWh⟩ ?_
 clear hB sB
 rintro V1 ⟨hB,rwd⟩
 have swd:=RF2 rwd
 refine (MA _ hB).mono ?_
 rintro e W2 ⟨rfl,h1⟩
 have stp:=St1 hB h1 rwd;clear hB h1 rwd swd
 obtain ⟨hB,rwd⟩:=stp
 have swd:=RF2 rwd
 go_wp2
 refine bodyPost_ret (v := .tuple #[.bool false,.int .i64 120]) ?res rfl ⟨rfl,(by have sB:=hB.size;exact BW)⟩
 case res=>simp [results,Tryz.results62, go_sem]
theorem within_ok {a b x1 x2 l1 l2 h1 h2 d1 d2:ByteArray} {p:Option Addr} {n c:Nat} {t k:Int} (w:World) (HA:∀ W,Below w.heap.size w W→Calls Tryz.prog 12 #[.agg #[.string a,.string b,.slice p n c],.int .i64 t] W (fun e w'=>e = .returned (.tuple #[.agg #[.string l1,.string l2,.string h1,.string h2],.int .i64 0])∧Below W.heap.size W w'))
  (HS:∀ W,Below w.heap.size w W→Calls Tryz.prog 136 #[.agg #[.string h1,.string h2],.agg #[.string l1,.string l2]] W (fun e w'=>e = .returned (.tuple #[.agg #[.string d1,.string d2],.int .i64 0])∧Below W.heap.size W w'))
  (HC:∀ W,Below w.heap.size w W→Calls Tryz.prog 56 #[.agg #[.string d1,.string d2],.agg #[.string x1,.string x2]] W (CmpOk k W)):Calls Tryz.prog 62 #[.agg #[.string a,.string b,.slice p n c],.int .i64 t,.agg #[.string x1,.string x2]] w (WithOk (decide (k≤0)) 0 w):=by
 have hB:Below w.heap.size w w:=Below.refl _ _
 have MA:=HA
 have MS:=HS
 have MC:=HC
 unfold CmpOk at MC
 unfold WithOk
 clear HA HS HC
 go_enter Tryz.func62, Tryz.ntmps62
 go_wp2_with fail
 have sB:=hB.size
 refine world_cut (fun X=>Below w.heap.size w X∧Row X (w.heap.size+1) (.cells #[.string x1,.string x2] 23)) ⟨BW,RWh⟩ ?_
 clear hB sB
 rintro V1 ⟨hB,rwd⟩
 have swd:=RF2 rwd
 refine (MA _ hB).mono ?_
 rintro e W2 ⟨rfl,h1⟩
 have stp:=St1 hB h1 rwd;clear hB h1 rwd swd
 obtain ⟨hB,rwd⟩:=stp
 have swd:=RF2 rwd
 go_wp2_with fail
 have sB:=hB.size
 refine world_cut (fun X=>Below w.heap.size w X∧Row X (w.heap.size+1) (.cells #[.string x1,.string x2] 23)) ⟨BW,RWh⟩ ?_
 clear rwd
 clear swd
 clear hB sB
 rintro V3 ⟨hB,rwd⟩
 have swd:=RF2 rwd
 refine (MS _ hB).mono ?_
 rintro e W4 ⟨rfl,h1⟩
 have stp:=St1 hB h1 rwd;clear hB h1 rwd swd
 obtain ⟨hB,rwd⟩:=stp
 have swd:=RF2 rwd
 go_wp2_with fail
 have sB:=hB.size
 refine world_cut (fun X=>Below w.heap.size w X) BW ?_
 clear rwd
 clear swd
 clear hB sB
 rintro V5 hB
 refine (MC _ hB).mono ?_
 rintro e W6 ⟨rfl,h1⟩
 have stp:=St0 hB h1;clear hB h1
 have hB:=stp;clear stp
 go_wp2
 refine bodyPost_ret (v := .tuple #[.bool (decide (k≤0)),.int .i64 0]) ?res rfl ⟨rfl,(by have sB:=hB.size;exact BW)⟩
 case res=>simp [results,Tryz.results62, go_sem]
theorem r12until_a {t e1:Int} {b1:Bool} (a1 a2 s1 s2 x1 x2:ByteArray) (p0:Option Addr) (m0 c0 k:Nat) (xs:List Value) (w:World) (KV:∀ W,Below w.heap.size w W→Calls Tryz.prog 17 #[.agg #[.string a1,.string a2,.slice p0 m0 c0],.int .i64 t] W fun e w'=>∃ p c,w'.ownsRow W.heap.size 32 5 (.slice p k c) k xs∧e = .returned (.agg #[.string s1,.string s2,.slice p k c])∧Below W.heap.size W w') (HV:∀ W,Below w.heap.size w W→Calls Tryz.prog 61 #[.agg #[.string x1,.string x2]] W (BoolOk false W)) (HW:∀ p c n W,W.ownsRow n 32 5 (.slice p k c) k xs→Below w.heap.size w W→Calls Tryz.prog 62 #[.agg #[.string s1,.string s2,.slice p k c],.int .i64 t,.agg #[.string x1,.string x2]] W (WithOk b1 e1 W)) :
  Calls Tryz.prog 14 #[.agg #[.string a1,.string a2,.slice p0 m0 c0],.int .i64 t,.agg #[.string x1,.string x2]] w fun e w'=>e = .returned (.tuple #[.int .i64 0,.bool false])∧Below w.heap.size w w':=by
 have hB:Below w.heap.size w w:=Below.refl _ _
 have MV:=HV
 have MK:=KV
 have MW:=fun p c n W ho hB=>HW p c n W ho hB
 unfold BoolOk at MV
 unfold WithOk at MW
 clear HV KV HW
 go_enter Tryz.func14, Tryz.ntmps14
 go_wp2_with fail
 have d0_h:w.heap.size≤w.heap.size:=by have:=hB.size;omega
 have sB:=hB.size
 refine world_cut (fun X=>Below w.heap.size w X∧Row X w.heap.size (.cells #[.string a1,.string a2,.slice p0 m0 c0] 26)∧Row X (w.heap.size+1) (.cells #[.string x1,.string x2] 23)) ⟨BW,RWh,RWh⟩ ?_
 clear hB sB
 rintro V1 ⟨hB,rh,rwd⟩
 have sh:=RFz3 rh
 have swd:=RF2 rwd
 refine (MV _ hB).mono ?_
 rintro e W2 ⟨rfl,h1⟩
 have stp:=St2 hB h1 rh rwd;clear hB h1 rh sh rwd swd
 obtain ⟨hB,rh,rwd⟩:=stp
 have sh:=RFz3 rh
 have swd:=RF2 rwd
 go_wp2_with fail
 have hk0:=rwd.1
 refine (MK _ hB).mono ?_
 rintro e W3 ⟨p,c,hown,rfl,h1⟩
 have stp:=St2 hB h1 rh rwd;clear hB h1 rh sh rwd swd
 obtain ⟨hB,rh,rwd⟩:=stp
 have sh:=RFz3 rh
 have swd:=RF2 rwd
 go_wp2_with fail
 have sB:=hB.size
 refine world_cut (fun X=>Below w.heap.size w X∧Row X w.heap.size (.cells #[.string s1,.string s2,.slice p k c] 26)∧Row X (w.heap.size+1) (.cells #[.string x1,.string x2] 23)∧X.ownsRow W2.heap.size 32 5 (.slice p k c) k xs) ⟨BW,RWh,RWh,OW⟩ ?_
 clear rh
 clear sh
 clear rwd
 clear swd
 clear hB sB hown
 rintro V4 ⟨hB,rh,rwd,hown⟩
 have sh:=RFz3 rh
 have swd:=RF2 rwd
 refine (MW p c _ _ hown hB).mono ?_
 rintro e W5 ⟨rfl,h1⟩
 replace hown:=own_later hown h1
 have stp:=St2 hB h1 rh rwd;clear hB h1 rh sh rwd swd
 obtain ⟨hB,rh,rwd⟩:=stp
 have sh:=RFz3 rh
 have swd:=RF2 rwd
 go_wp2
 refine bodyPost_ret (v := .tuple #[.int .i64 0,.bool false]) ?res rfl ⟨rfl,(by have sB:=hB.size;exact BW)⟩
 case res=>simp [results,Tryz.results14, go_sem]
theorem r12until_b {t e1:Int} (a1 a2 s1 s2 x1 x2:ByteArray) (p0:Option Addr) (m0 c0 k:Nat) (xs:List Value) (w:World) (KV:∀ W,Below w.heap.size w W→Calls Tryz.prog 17 #[.agg #[.string a1,.string a2,.slice p0 m0 c0],.int .i64 t] W fun e w'=>∃ p c,w'.ownsRow W.heap.size 32 5 (.slice p k c) k xs∧e = .returned (.agg #[.string s1,.string s2,.slice p k c])∧Below W.heap.size W w') (HV:∀ W,Below w.heap.size w W→Calls Tryz.prog 61 #[.agg #[.string x1,.string x2]] W (BoolOk true W)) (HW:∀ p c n W,W.ownsRow n 32 5 (.slice p k c) k xs→Below w.heap.size w W→Calls Tryz.prog 62 #[.agg #[.string s1,.string s2,.slice p k c],.int .i64 t,.agg #[.string x1,.string x2]] W (WithOk false e1 W)) :
  Calls Tryz.prog 14 #[.agg #[.string a1,.string a2,.slice p0 m0 c0],.int .i64 t,.agg #[.string x1,.string x2]] w fun e w'=>e = .returned (.tuple #[.int .i64 0,.bool false])∧Below w.heap.size w w':=by
 have hB:Below w.heap.size w w:=Below.refl _ _
 have MV:=HV
 have MK:=KV
 have MW:=fun p c n W ho hB=>HW p c n W ho hB
 unfold BoolOk at MV
 unfold WithOk at MW
 clear HV KV HW
 go_enter Tryz.func14, Tryz.ntmps14
 go_wp2_with fail
 have d0_h:w.heap.size≤w.heap.size:=by have:=hB.size;omega
 have sB:=hB.size
 refine world_cut (fun X=>Below w.heap.size w X∧Row X w.heap.size (.cells #[.string a1,.string a2,.slice p0 m0 c0] 26)∧Row X (w.heap.size+1) (.cells #[.string x1,.string x2] 23)) ⟨BW,RWh,RWh⟩ ?_
 clear hB sB
 rintro V1 ⟨hB,rh,rwd⟩
 have sh:=RFz3 rh
 have swd:=RF2 rwd
 refine (MV _ hB).mono ?_
 rintro e W2 ⟨rfl,h1⟩
 have stp:=St2 hB h1 rh rwd;clear hB h1 rh sh rwd swd
 obtain ⟨hB,rh,rwd⟩:=stp
 have sh:=RFz3 rh
 have swd:=RF2 rwd
 go_wp2_with fail
 have hk0:=rwd.1
 refine (MK _ hB).mono ?_
 rintro e W3 ⟨p,c,hown,rfl,h1⟩
 have stp:=St2 hB h1 rh rwd;clear hB h1 rh sh rwd swd
 obtain ⟨hB,rh,rwd⟩:=stp
 have sh:=RFz3 rh
 have swd:=RF2 rwd
 go_wp2_with fail
 have sB:=hB.size
 refine world_cut (fun X=>Below w.heap.size w X∧Row X w.heap.size (.cells #[.string s1,.string s2,.slice p k c] 26)∧Row X (w.heap.size+1) (.cells #[.string x1,.string x2] 23)∧X.ownsRow W2.heap.size 32 5 (.slice p k c) k xs) ⟨BW,RWh,RWh,OW⟩ ?_
 clear rh
 clear sh
 clear rwd
 clear swd
 clear hB sB hown
 rintro V4 ⟨hB,rh,rwd,hown⟩
 have sh:=RFz3 rh
 have swd:=RF2 rwd
 refine (MW p c _ _ hown hB).mono ?_
 rintro e W5 ⟨rfl,h1⟩
 replace hown:=own_later hown h1
 have stp:=St2 hB h1 rh rwd;clear hB h1 rh sh rwd swd
 obtain ⟨hB,rh,rwd⟩:=stp
 have sh:=RFz3 rh
 have swd:=RF2 rwd
 go_wp2
 refine bodyPost_ret (v := .tuple #[.int .i64 0,.bool false]) ?res rfl ⟨rfl,(by have sB:=hB.size;exact BW)⟩
 case res=>simp [results,Tryz.results14, go_sem]
theorem r12until_c {f N:Nat} (hfN:f+N≤1000000) (a1 a2 s1 s2 x1 x2:ByteArray) (p0:Option Addr) (m0 c0 k:Nat) (xs:List Value) (w:World) (KV:∀ W,Below w.heap.size w W→Calls Tryz.prog 17 #[.agg #[.string a1,.string a2,.slice p0 m0 c0],.int .i64 (f:Int)] W fun e w'=>∃ p c,w'.ownsRow W.heap.size 32 5 (.slice p k c) k xs∧e = .returned (.agg #[.string s1,.string s2,.slice p k c])∧Below W.heap.size W w') (HV:∀ W,Below w.heap.size w W→Calls Tryz.prog 61 #[.agg #[.string x1,.string x2]] W (BoolOk true W)) (HW:∀ p c n (j:Nat) W,W.ownsRow n 32 5 (.slice p k c) k xs→Below w.heap.size w W→f≤j→j≤1000000→Calls Tryz.prog 62 #[.agg #[.string s1,.string s2,.slice p k c],.int .i64 (j:Int),.agg #[.string x1,.string x2]] W (WithOk (decide (j≤f+N)) 0 W)) :
  Calls Tryz.prog 14 #[.agg #[.string a1,.string a2,.slice p0 m0 c0],.int .i64 (f:Int),.agg #[.string x1,.string x2]] w fun e w'=>e = .returned (.tuple #[.int .i64 ((f+N:Nat):Int),.bool true])∧Below w.heap.size w w':=by
 have hB:Below w.heap.size w w:=Below.refl _ _
 have MV:=HV
 have MK:=KV
 unfold BoolOk at MV
 have MW:=fun p c n j W ho hB h1 h2=>HW p c n j W ho hB h1 h2
 unfold WithOk at MW
 have e0:decide (f≤f+N)=true:=decide_eq_true (by omega)
 clear HV KV HW
 go_enter Tryz.func14, Tryz.ntmps14
 go_wp2_with fail
 have d0_h:w.heap.size≤w.heap.size:=by have:=hB.size;omega
 have sB:=hB.size
 refine world_cut (fun X=>Below w.heap.size w X∧Row X w.heap.size (.cells #[.string a1,.string a2,.slice p0 m0 c0] 26)∧Row X (w.heap.size+1) (.cells #[.string x1,.string x2] 23)) ⟨BW,RWh,RWh⟩ ?_
 clear hB sB
 rintro V1 ⟨hB,rh,rwd⟩
 have sh:=RFz3 rh
 have swd:=RF2 rwd
 refine (MV _ hB).mono ?_
 rintro e W2 ⟨rfl,h1⟩
 have stp:=St2 hB h1 rh rwd;clear hB h1 rh sh rwd swd
 obtain ⟨hB,rh,rwd⟩:=stp
 have sh:=RFz3 rh
 have swd:=RF2 rwd
 go_wp2_with fail
 have hk0:=rwd.1
 refine (MK _ hB).mono ?_
 rintro e W3 ⟨p,c,hown,rfl,h1⟩
 have stp:=St2 hB h1 rh rwd;clear hB h1 rh sh rwd swd
 obtain ⟨hB,rh,rwd⟩:=stp
 have sh:=RFz3 rh
 have swd:=RF2 rwd
 go_wp2_with fail
 have sB:=hB.size
 refine world_cut (fun X=>Below w.heap.size w X∧Row X w.heap.size (.cells #[.string s1,.string s2,.slice p k c] 26)∧Row X (w.heap.size+1) (.cells #[.string x1,.string x2] 23)∧X.ownsRow W2.heap.size 32 5 (.slice p k c) k xs) ⟨BW,RWh,RWh,OW⟩ ?_
 clear rh
 clear sh
 clear rwd
 clear swd
 clear hB sB hown
 rintro V4 ⟨hB,rh,rwd,hown⟩
 have sh:=RFz3 rh
 have swd:=RF2 rwd
 have M0:=MW p c _ f _ hown hB (Nat.le_refl _) (by omega);rw [e0] at M0
 refine (M0).mono ?_
 rintro e W5 ⟨rfl,h1⟩
 replace hown:=own_later hown h1
 have stp:=St2 hB h1 rh rwd;clear hB h1 rh sh rwd swd
 obtain ⟨hB,rh,rwd⟩:=stp
 have sh:=RFz3 rh
 have swd:=RF2 rwd
 go_wp2_with fail
 clear sh
 clear swd
 obtain ⟨n1,hn1⟩:∃ n,n=W2.heap.size:=⟨_,rfl⟩
 rw [← hn1] at hown
 have hkn:w.heap.size+1<n1:=by omega
 clear hn1
 go_loopw [11,12] (fun v11 v12 wr=>∃ x y:Nat,v11 = .int .i64 (x:Int)∧v12 = .int .i64 (y:Int)∧f≤x∧x≤f+N∧f+N≤y∧y≤1000000∧wr.ownsRow n1 32 5 (.slice p k c) k xs∧Below w.heap.size w wr∧Row wr w.heap.size (.cells #[.string s1,.string s2,.slice p k c] 26)∧Row wr (w.heap.size+1) (.cells #[.string x1,.string x2] 23)) (fun v11 v12 _=>(RowKit.intOf v12 - RowKit.intOf v11).toNat)
 case atStart=>exact ⟨f,1000000,rfl,rfl,Nat.le_refl _,by omega,hfN,Nat.le_refl _,hown,hB,rh,rwd⟩
 case round =>
  clear hB rh rwd hown
  obtain ⟨x,y,rfl,rfl,hfx,hxN,hNy,hy,hown,hB,rh,rwd⟩:=hrel
  rcases Nat.lt_or_ge x y with hlt | hge
  ·obtain ⟨z,hz⟩:∃ z:Nat,z=(x+y+1) / 2:=⟨_,rfl⟩
   have hxz:x<z:=by omega
   have hzy:z≤y:=by omega
   have hw1:IntKind.i64.wrap ((x:Int)+(y:Int))=(x:Int)+(y:Int):=by rw [IntKind.wrap_i64];omega
   have hw2:IntKind.i64.wrap ((x:Int)+(y:Int)+1)=(x:Int)+(y:Int)+1:=by rw [IntKind.wrap_i64];omega
   have hw3:((x:Int)+(y:Int)+1).tdiv 2=(z:Int):=by rw [Int.tdiv_eq_ediv_of_nonneg (by omega)];omega
   have hw4:IntKind.i64.wrap (z:Int)=(z:Int):=by rw [IntKind.wrap_i64];omega
   have hfy:=And.intro hw1 (And.intro hw2 (And.intro hw3 hw4))
   clear hz
   have hzI:(x:Int)<(y:Int):=by omega
   have sh:=RFz3 rh
   have swd:=RF2 rwd
   by_cases hzN:z≤f+N
   ·have d0:decide (z≤f+N)=true:=decide_eq_true hzN
    go_upto_region 9 with fail
    refine wp_region_vals_seq [.int .i64 (x:Int),.int .i64 (y:Int),.int .i64 ((x:Int)+(y:Int)),.int .i64 ((x:Int)+(y:Int)+1),.int .i64 (z:Int),.int .i64 (z:Int)] (by kernel_rfl) rfl (allVals.cons qv0 (allVals.cons qv0 (allVals.cons (qvf hfy) (allVals.cons (qvf hfy) (allVals.cons (qvf hfy) (allVals.cons qv0 trivial)))))) ?_
    rintro W h1
    replace hown:=own_later hown h1
    have stp:=St2 hB h1 rh rwd;clear hB h1 rh sh rwd swd
    obtain ⟨hB,rh,rwd⟩:=stp
    have sh:=RFz3 rh
    have swd:=RF2 rwd
    simp only [setVals,List.setIfInBounds_toArray,List.set_cons_succ,List.set_cons_zero]
    go_wp2_with fail
    have M0:=MW p c _ z _ hown hB (by omega) (by omega);rw [d0] at M0
    refine (M0).mono ?_
    rintro e W6 ⟨rfl,h1⟩
    replace hown:=own_later hown h1
    have stp:=St2 hB h1 rh rwd;clear hB h1 rh sh rwd swd
    obtain ⟨hB,rh,rwd⟩:=stp
    have sh:=RFz3 rh
    have swd:=RF2 rwd
    go_wp2
    go_roundw
    case rel=>exact ⟨z,y,rfl,rfl,by omega,hzN,hNy,hy,hown,BW,RWh,RWh⟩
    case measure=>simp [RowKit.intOf];omega
   ·have d0:decide (z≤f+N)=false:=decide_eq_false hzN
    go_upto_region 9 with fail
    refine wp_region_vals_seq [.int .i64 (x:Int),.int .i64 (y:Int),.int .i64 ((x:Int)+(y:Int)),.int .i64 ((x:Int)+(y:Int)+1),.int .i64 (z:Int),.int .i64 (z:Int)] (by kernel_rfl) rfl (allVals.cons qv0 (allVals.cons qv0 (allVals.cons (qvf hfy) (allVals.cons (qvf hfy) (allVals.cons (qvf hfy) (allVals.cons qv0 trivial)))))) ?_
    rintro W h1
    replace hown:=own_later hown h1
    have stp:=St2 hB h1 rh rwd;clear hB h1 rh sh rwd swd
    obtain ⟨hB,rh,rwd⟩:=stp
    have sh:=RFz3 rh
    have swd:=RF2 rwd
    simp only [setVals,List.setIfInBounds_toArray,List.set_cons_succ,List.set_cons_zero]
    go_wp2_with fail
    have M0:=MW p c _ z _ hown hB (by omega) (by omega);rw [d0] at M0
    refine (M0).mono ?_
    rintro e W6 ⟨rfl,h1⟩
    replace hown:=own_later hown h1
    have stp:=St2 hB h1 rh rwd;clear hB h1 rh sh rwd swd
    obtain ⟨hB,rh,rwd⟩:=stp
    have sh:=RFz3 rh
    have swd:=RF2 rwd
    go_wp2
    go_roundw
    case rel=>exact ⟨x,z - 1,rfl,by go_num,hfx,hxN,by omega,by omega,hown,BW,RWh,RWh⟩
    case measure=>simp [RowKit.intOf];omega
  ·obtain rfl:x=y:=by omega
   have hxe:x=f+N:=by omega
   have sh:=RFz3 rh
   have swd:=RF2 rwd
   have HXE:=Lib.hid hxe
   clear hxe
   go_wp2
   refine bodyPost_ret (v := .tuple #[.int .i64 (x:Int),.bool true]) ?res rfl ⟨by rw [HXE.out],hB⟩
   case res=>simp [results,Tryz.results14, go_sem]
end Go.Proofs.YtnokpldomlmamaaGreatDoor
