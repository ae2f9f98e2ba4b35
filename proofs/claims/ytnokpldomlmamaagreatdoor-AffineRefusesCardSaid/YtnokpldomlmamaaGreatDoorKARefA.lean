/-
 Package affine: compute, where a form is not valid.; Package affine: Add, Mul, Range, where a form is not valid.; Package affine: At where a value is wrong, Covariance where a source is wrong.
-/
import Derived.Test.YtnokpldomlmamaaGreatDoorKDPairs
import Derived.Test.YtnokpldomlmamaaGreatDoorKAMul
import Derived.Test.YtnokpldomlmamaaGreatDoorKACov
import Derived.Test.YtnokpldomlmamaaGreatDoorKExtraR
set_option linter.unusedSimpArgs false
set_option linter.unusedVariables false
set_option maxRecDepth 100000
set_option maxHeartbeats 16000000
namespace Go.Proofs.YtnokpldomlmamaaGreatDoor
open Go Go.RowKit Go.Lib Go.Shelf
/-- compute, where a form is not valid. -/
theorem avcompute_bad (F:FuncId) (caps:Array Value) (s n:Nat) (a0 a:Addr) (w:World) (he:EnvA a0 a w)
  (hv:∀ W,Below w.heap.size w W→Calls Tryz.prog 154 #[.slice (some ⟨s,0,none⟩) n n,.func (.func 160) #[] #[]] W (BoolOk true W)) :
  Calls Tryz.prog 85 #[.func (.func F) #[] caps,.slice (some ⟨s,0,none⟩) n n] w (avErr w):=by
 have hmf:∀ (fn:Fn) (first cap:Array Value) (w:World),(Instr.makeFunc fn first cap).run Tryz.prog w = .ok (.func fn first cap) w:=fun _ _ _ _=>rfl
 have hB:Below w.heap.size w w:=Below.refl _ _
 go_enter_defers Tryz.func85, Tryz.ntmps85
 go_wp2_with fail
 refine world_cut (fun X=>Below w.heap.size w X∧Row X w.heap.size (.cells #[.string ⟨#[]⟩,.string ⟨#[]⟩,.string ⟨#[]⟩,.string ⟨#[]⟩] 30)∧Row X (w.heap.size+1) (.cells #[.int .i64 0] 40)) ⟨(by repeat (first | (with_reducible exact hB) | (with_reducible refine Below.drew ?_) | (with_reducible refine Below.alloc ?_ (by first | omega | (simp;done) | (simp;omega)) _) | (with_reducible refine Below.setCell ?_ (by first | omega | (simp;done) | (simp;omega)) _))),(by repeat (first | (with_reducible exact row_new' (by first | omega | (simp;done) | (simp;omega))) | (with_reducible refine Row.drew ?_) | (with_reducible refine Row.alloc ?_ _))),(by repeat (first | (with_reducible exact row_new' (by first | omega | (simp;done) | (simp;omega))) | (with_reducible refine Row.drew ?_) | (with_reducible refine Row.alloc ?_ _)))⟩ ?_
 clear hB
 rintro W1 ⟨hB,rp,rq⟩
 refine (hv _ hB).mono ?_
 rintro e W2 ⟨rfl,h1⟩
 replace hB:=hB.trans (h1.mono hB.size)
 replace rp:=Row.below rp h1
 replace rq:=Row.below rq h1
 clear h1
 go_wp2_with fail
 refine (acheck_false _ (he.below hB)).mono ?_
 rintro e W4 ⟨rfl,h1⟩
 replace hB:=hB.trans (h1.mono hB.size)
 replace rp:=Row.below rp h1
 replace rq:=Row.below rq h1
 refine leaves_cons (f := 159) (args:=#[.pointer (some ⟨w.heap.size,0,none⟩),.pointer (some ⟨w.heap.size+1,0,none⟩)]) (by simp) (by simp [go_sem]) ?_
 refine (avcatch _ _ a0 a [] _ _ _ _ _ _ (by omega) rp rq (he.below hB)).mono ?_
 rintro e u' w'' ⟨rfl,rfl,rp',rq',hb⟩
 replace hB:=hB.trans (hb w.heap.size (by omega) (by omega))
 obtain ⟨tp,dp0,dp1,dp2,dp3,_gp0,_gp1,_gp2,_gp3⟩:=Row.cells4 rp'
 obtain ⟨tq,dq,_gq⟩:=Row.cells1 rq'
 simp only [Leaves,settle,List.dropWhile_nil]
 exact ⟨.tuple #[.agg #[.string ⟨#[]⟩,.string ⟨#[]⟩,.string ⟨#[]⟩,.string ⟨#[]⟩],.int .i64 80],by simp [results,Tryz.results85, go_sem,dp0,dp1,dp2,dp3,dq],rfl,hB⟩
/-- compute, where a form is not valid. -/
theorem afcompute_bad (F:FuncId) (caps:Array Value) (s n:Nat) (a0 a:Addr) (w:World) (he:EnvA a0 a w)
  (hv:∀ W,Below w.heap.size w W→Calls Tryz.prog 154 #[.slice (some ⟨s,0,none⟩) n n,.func (.func 155) #[] #[]] W (BoolOk true W)) :
  Calls Tryz.prog 79 #[.func (.func F) #[] caps,.slice (some ⟨s,0,none⟩) n n] w (afErr w):=by
 have hmf:∀ (fn:Fn) (first cap:Array Value) (w:World),(Instr.makeFunc fn first cap).run Tryz.prog w = .ok (.func fn first cap) w:=fun _ _ _ _=>rfl
 have hB:Below w.heap.size w w:=Below.refl _ _
 go_enter_defers Tryz.func79, Tryz.ntmps79
 go_wp2_with fail
 refine world_cut (fun X=>Below w.heap.size w X∧Row X w.heap.size (.cells #[.string ⟨#[]⟩,.string ⟨#[]⟩,.slice none 0 0,.string ⟨#[]⟩,.string ⟨#[]⟩] 58)∧Row X (w.heap.size+1) (.cells #[.int .i64 0] 40)) ⟨(by repeat (first | (with_reducible exact hB) | (with_reducible refine Below.drew ?_) | (with_reducible refine Below.alloc ?_ (by first | omega | (simp;done) | (simp;omega)) _) | (with_reducible refine Below.setCell ?_ (by first | omega | (simp;done) | (simp;omega)) _))),(by repeat (first | (with_reducible exact row_new' (by first | omega | (simp;done) | (simp;omega))) | (with_reducible refine Row.drew ?_) | (with_reducible refine Row.alloc ?_ _))),(by repeat (first | (with_reducible exact row_new' (by first | omega | (simp;done) | (simp;omega))) | (with_reducible refine Row.drew ?_) | (with_reducible refine Row.alloc ?_ _)))⟩ ?_
 clear hB
 rintro W1 ⟨hB,rp,rq⟩
 refine (hv _ hB).mono ?_
 rintro e W2 ⟨rfl,h1⟩
 replace hB:=hB.trans (h1.mono hB.size)
 replace rp:=Row.below rp h1
 replace rq:=Row.below rq h1
 clear h1
 go_wp2_with fail
 refine (acheck_false _ (he.below hB)).mono ?_
 rintro e W4 ⟨rfl,h1⟩
 replace hB:=hB.trans (h1.mono hB.size)
 replace rp:=Row.below rp h1
 replace rq:=Row.below rq h1
 refine leaves_cons (f := 152) (args:=#[.pointer (some ⟨w.heap.size,0,none⟩),.pointer (some ⟨w.heap.size+1,0,none⟩)]) (by simp) (by simp [go_sem]) ?_
 refine (afcatch _ _ a0 a [] _ _ _ _ _ _ _ (by omega) rp rq (he.below hB)).mono ?_
 rintro e u' w'' ⟨rfl,rfl,rp',rq',hb⟩
 replace hB:=hB.trans (hb w.heap.size (by omega) (by omega))
 obtain ⟨tp,dp0,dp1,dp2,dp3,dp4,_gp0,_gp1,_gp2,_gp3,_gp4⟩:=Row.cells5 rp'
 obtain ⟨tq,dq,_gq⟩:=Row.cells1 rq'
 simp only [Leaves,settle,List.dropWhile_nil]
 exact ⟨.tuple #[.agg #[.string ⟨#[]⟩,.string ⟨#[]⟩,.slice none 0 0,.string ⟨#[]⟩,.string ⟨#[]⟩],.int .i64 80],by simp [results,Tryz.results79, go_sem,dp0,dp1,dp2,dp3,dp4,dq],rfl,hB⟩
end Go.Proofs.YtnokpldomlmamaaGreatDoor
namespace Go.Proofs.YtnokpldomlmamaaGreatDoor
open Go Go.RowKit Go.Lib Go.Shelf
attribute [local go_sem] normalQ
theorem avbadB (b1 b2 b3 b4:ByteArray) (pb:Option Addr) (mb cb:Nat) (w:World) (nv:∀ W,Below w.heap.size w W→Calls Tryz.prog 34 #[.agg #[.string b1,.string b2,.slice pb mb cb,.string b3,.string b4]] W (BoolOk false W)):Calls Tryz.prog 160 #[.agg #[.string b1,.string b2,.slice pb mb cb,.string b3,.string b4]] w (BoolOk true w):=by
 have hB:Below w.heap.size w w:=Below.refl _ _
 unfold BoolOk at nv
 unfold BoolOk
 go_enter Tryz.func160, Tryz.ntmps160
 go_wp2_with fail
 have sB:=hB.size
 refine world_cut (fun X=>Below w.heap.size w X) BW ?_
 clear hB sB
 rintro V1 hB
 refine (nv _ hB).mono ?_
 rintro e W2 ⟨rfl,h1⟩
 have stp:=St0 hB h1;clear hB h1
 have hB:=stp;clear stp
 go_wp2
 go_ret
 exact ⟨rfl,hB⟩
theorem afbadB (b1 b2 b3 b4:ByteArray) (pb:Option Addr) (mb cb:Nat) (w:World) (nv:∀ W,Below w.heap.size w W→Calls Tryz.prog 34 #[.agg #[.string b1,.string b2,.slice pb mb cb,.string b3,.string b4]] W (BoolOk false W)):Calls Tryz.prog 155 #[.agg #[.string b1,.string b2,.slice pb mb cb,.string b3,.string b4]] w (BoolOk true w):=by
 have hB:Below w.heap.size w w:=Below.refl _ _
 unfold BoolOk at nv
 unfold BoolOk
 go_enter Tryz.func155, Tryz.ntmps155
 go_wp2_with fail
 have sB:=hB.size
 refine world_cut (fun X=>Below w.heap.size w X) BW ?_
 clear hB sB
 rintro V1 hB
 refine (nv _ hB).mono ?_
 rintro e W2 ⟨rfl,h1⟩
 have stp:=St0 hB h1;clear hB h1
 have hB:=stp;clear stp
 go_wp2
 go_ret
 exact ⟨rfl,hB⟩
theorem findexb10 (G:FuncId) (eg:∀ args w,(callFunc G args).run Tryz.prog w = .ok (.enter G args) w) (s:Nat) (x1 x2 x3 x4:ByteArray) (px:Option Addr) (mx cx:Nat) (w:World) (r0:Row w s (.cells #[.string x1,.string x2,.slice px mx cx,.string x3,.string x4] 58)) (hx:∀ W,Below w.heap.size w W→Calls Tryz.prog G #[.agg #[.string x1,.string x2,.slice px mx cx,.string x3,.string x4]] W (BoolOk true W)) :
  Calls Tryz.prog 216 #[.slice (some ⟨s,0,none⟩) 1 1,.func (.func G) #[] #[]] w fun e w'=>e = .returned (.int .i64 0)∧Below w.heap.size w w':=by
 go_enter Tryz.func216, Tryz.ntmps216
 go_wp2
 go_loopw [8] (fun iv wr=>∃ (k:Nat),k≤0∧iv = .int .i64 (k:Int)∧Row wr s (.cells #[.string x1,.string x2,.slice px mx cx,.string x3,.string x4] 58)∧Below w.heap.size w wr) (fun iv _=>1 - (RowKit.intOf iv).toNat)
 case atStart=>exact ⟨0,by omega,rfl,r0,Below.refl _ _⟩
 case round =>
  obtain ⟨k,hk,rfl,hr,hB'⟩:=hrel
  have k0:=Row.cell_at hr 0 rfl
  have k1:=Row.cell_at hr 1 rfl
  have k2:=Row.cell_at hr 2 rfl
  have k3:=Row.cell_at hr 3 rfl
  have k4:=Row.cell_at hr 4 rfl
  obtain rfl:k=0:=by omega
  ·go_wp2_with (go_at_fn G;refine (hx _ hB').mono ?_;rintro e W1 ⟨rfl,h1⟩)
   go_ret
   exact ⟨rfl,hB'.trans (h1.mono hB'.size)⟩
theorem containsb10 (G:FuncId) (eg:∀ args w,(callFunc G args).run Tryz.prog w = .ok (.enter G args) w) (s:Nat) (x1 x2 x3 x4:ByteArray) (px:Option Addr) (mx cx:Nat) (w:World) (r0:Row w s (.cells #[.string x1,.string x2,.slice px mx cx,.string x3,.string x4] 58)) (hx:∀ W,Below w.heap.size w W→Calls Tryz.prog G #[.agg #[.string x1,.string x2,.slice px mx cx,.string x3,.string x4]] W (BoolOk true W)) :
  Calls Tryz.prog 154 #[.slice (some ⟨s,0,none⟩) 1 1,.func (.func G) #[] #[]] w (BoolOk true w):=by
 have H:=findexb10 G eg s x1 x2 x3 x4 px mx cx w r0 hx
 go_enter Tryz.func154, Tryz.ntmps154
 go_wp2_with fail
 refine H.mono ?_
 rintro e W ⟨rfl,h1⟩
 go_wp2
 go_ret
 exact ⟨rfl,h1⟩
theorem findexb21 (G:FuncId) (eg:∀ args w,(callFunc G args).run Tryz.prog w = .ok (.enter G args) w) (s:Nat) (x1 x2 x3 x4:ByteArray) (px:Option Addr) (mx cx:Nat) (y1 y2 y3 y4:ByteArray) (py:Option Addr) (my cy:Nat) (w:World) (r0:Row w s (.cells #[.string x1,.string x2,.slice px mx cx,.string x3,.string x4,.string y1,.string y2,.slice py my cy,.string y3,.string y4] 58)) (hx:∀ W,Below w.heap.size w W→Calls Tryz.prog G #[.agg #[.string x1,.string x2,.slice px mx cx,.string x3,.string x4]] W (BoolOk false W)) (hy:∀ W,Below w.heap.size w W→Calls Tryz.prog G #[.agg #[.string y1,.string y2,.slice py my cy,.string y3,.string y4]] W (BoolOk true W)) :
  Calls Tryz.prog 216 #[.slice (some ⟨s,0,none⟩) 2 2,.func (.func G) #[] #[]] w fun e w'=>e = .returned (.int .i64 1)∧Below w.heap.size w w':=by
 go_enter Tryz.func216, Tryz.ntmps216
 go_wp2
 go_loopw [8] (fun iv wr=>∃ (k:Nat),k≤1∧iv = .int .i64 (k:Int)∧Row wr s (.cells #[.string x1,.string x2,.slice px mx cx,.string x3,.string x4,.string y1,.string y2,.slice py my cy,.string y3,.string y4] 58)∧Below w.heap.size w wr) (fun iv _=>2 - (RowKit.intOf iv).toNat)
 case atStart=>exact ⟨0,by omega,rfl,r0,Below.refl _ _⟩
 case round =>
  obtain ⟨k,hk,rfl,hr,hB'⟩:=hrel
  have k0:=Row.cell_at hr 0 rfl
  have k1:=Row.cell_at hr 1 rfl
  have k2:=Row.cell_at hr 2 rfl
  have k3:=Row.cell_at hr 3 rfl
  have k4:=Row.cell_at hr 4 rfl
  have k5:=Row.cell_at hr 5 rfl
  have k6:=Row.cell_at hr 6 rfl
  have k7:=Row.cell_at hr 7 rfl
  have k8:=Row.cell_at hr 8 rfl
  have k9:=Row.cell_at hr 9 rfl
  rcases (show k=0∨k=1 by omega) with rfl | rfl
  ·go_wp2_with (go_at_fn G;refine (hx _ hB').mono ?_;rintro e W1 ⟨rfl,h1⟩)
   exact ⟨⟨1,by omega,rfl,Row.below hr h1,hB'.trans (h1.mono hB'.size)⟩,by simp [RowKit.intOf]⟩
  ·go_wp2_with (go_at_fn G;refine (hy _ hB').mono ?_;rintro e W1 ⟨rfl,h1⟩)
   go_ret
   exact ⟨rfl,hB'.trans (h1.mono hB'.size)⟩
theorem containsb21 (G:FuncId) (eg:∀ args w,(callFunc G args).run Tryz.prog w = .ok (.enter G args) w) (s:Nat) (x1 x2 x3 x4:ByteArray) (px:Option Addr) (mx cx:Nat) (y1 y2 y3 y4:ByteArray) (py:Option Addr) (my cy:Nat) (w:World) (r0:Row w s (.cells #[.string x1,.string x2,.slice px mx cx,.string x3,.string x4,.string y1,.string y2,.slice py my cy,.string y3,.string y4] 58)) (hx:∀ W,Below w.heap.size w W→Calls Tryz.prog G #[.agg #[.string x1,.string x2,.slice px mx cx,.string x3,.string x4]] W (BoolOk false W)) (hy:∀ W,Below w.heap.size w W→Calls Tryz.prog G #[.agg #[.string y1,.string y2,.slice py my cy,.string y3,.string y4]] W (BoolOk true W)) :
  Calls Tryz.prog 154 #[.slice (some ⟨s,0,none⟩) 2 2,.func (.func G) #[] #[]] w (BoolOk true w):=by
 have H:=findexb21 G eg s x1 x2 x3 x4 px mx cx y1 y2 y3 y4 py my cy w r0 hx hy
 go_enter Tryz.func154, Tryz.ntmps154
 go_wp2_with fail
 refine H.mono ?_
 rintro e W ⟨rfl,h1⟩
 go_wp2
 go_ret
 exact ⟨rfl,h1⟩
theorem findexb20 (G:FuncId) (eg:∀ args w,(callFunc G args).run Tryz.prog w = .ok (.enter G args) w) (s:Nat) (x1 x2 x3 x4:ByteArray) (px:Option Addr) (mx cx:Nat) (y1 y2 y3 y4:ByteArray) (py:Option Addr) (my cy:Nat) (w:World) (r0:Row w s (.cells #[.string x1,.string x2,.slice px mx cx,.string x3,.string x4,.string y1,.string y2,.slice py my cy,.string y3,.string y4] 58)) (hx:∀ W,Below w.heap.size w W→Calls Tryz.prog G #[.agg #[.string x1,.string x2,.slice px mx cx,.string x3,.string x4]] W (BoolOk true W)) :
  Calls Tryz.prog 216 #[.slice (some ⟨s,0,none⟩) 2 2,.func (.func G) #[] #[]] w fun e w'=>e = .returned (.int .i64 0)∧Below w.heap.size w w':=by
 go_enter Tryz.func216, Tryz.ntmps216
 go_wp2
 go_loopw [8] (fun iv wr=>∃ (k:Nat),k≤0∧iv = .int .i64 (k:Int)∧Row wr s (.cells #[.string x1,.string x2,.slice px mx cx,.string x3,.string x4,.string y1,.string y2,.slice py my cy,.string y3,.string y4] 58)∧Below w.heap.size w wr) (fun iv _=>2 - (RowKit.intOf iv).toNat)
 case atStart=>exact ⟨0,by omega,rfl,r0,Below.refl _ _⟩
 case round =>
  obtain ⟨k,hk,rfl,hr,hB'⟩:=hrel
  have k0:=Row.cell_at hr 0 rfl
  have k1:=Row.cell_at hr 1 rfl
  have k2:=Row.cell_at hr 2 rfl
  have k3:=Row.cell_at hr 3 rfl
  have k4:=Row.cell_at hr 4 rfl
  have k5:=Row.cell_at hr 5 rfl
  have k6:=Row.cell_at hr 6 rfl
  have k7:=Row.cell_at hr 7 rfl
  have k8:=Row.cell_at hr 8 rfl
  have k9:=Row.cell_at hr 9 rfl
  obtain rfl:k=0:=by omega
  ·go_wp2_with (go_at_fn G;refine (hx _ hB').mono ?_;rintro e W1 ⟨rfl,h1⟩)
   go_ret
   exact ⟨rfl,hB'.trans (h1.mono hB'.size)⟩
theorem containsb20 (G:FuncId) (eg:∀ args w,(callFunc G args).run Tryz.prog w = .ok (.enter G args) w) (s:Nat) (x1 x2 x3 x4:ByteArray) (px:Option Addr) (mx cx:Nat) (y1 y2 y3 y4:ByteArray) (py:Option Addr) (my cy:Nat) (w:World) (r0:Row w s (.cells #[.string x1,.string x2,.slice px mx cx,.string x3,.string x4,.string y1,.string y2,.slice py my cy,.string y3,.string y4] 58)) (hx:∀ W,Below w.heap.size w W→Calls Tryz.prog G #[.agg #[.string x1,.string x2,.slice px mx cx,.string x3,.string x4]] W (BoolOk true W)) :
  Calls Tryz.prog 154 #[.slice (some ⟨s,0,none⟩) 2 2,.func (.func G) #[] #[]] w (BoolOk true w):=by
 have H:=findexb20 G eg s x1 x2 x3 x4 px mx cx y1 y2 y3 y4 py my cy w r0 hx
 go_enter Tryz.func154, Tryz.ntmps154
 go_wp2_with fail
 refine H.mono ?_
 rintro e W ⟨rfl,h1⟩
 go_wp2
 go_ret
 exact ⟨rfl,h1⟩
theorem arange_bad {a0 a1:Addr} (b1 b2 b3 b4:ByteArray) (pb:Option Addr) (mb cb:Nat) (w:World) (he:EnvA a0 a1 w) (nv:∀ W,Below w.heap.size w W→Calls Tryz.prog 34 #[.agg #[.string b1,.string b2,.slice pb mb cb,.string b3,.string b4]] W (BoolOk false W)):Calls Tryz.prog 30 #[.agg #[.string b1,.string b2,.slice pb mb cb,.string b3,.string b4]] w (avErr w):=by
 have hB:Below w.heap.size w w:=Below.refl _ _
 have CF:=fun s W (r:Row W s (.cells #[.string b1,.string b2,.slice pb mb cb,.string b3,.string b4] 58)) (H:Below w.heap.size w W)=>containsb10 160 (enters_of Tryz.func160 (by kernel_rfl) rfl) s b1 b2 b3 b4 pb mb cb W r (fun X hX=>avbadB b1 b2 b3 b4 pb mb cb X (fun Y hY=>nv Y ((H.trans (hX.mono H.size)).trans (hY.mono (H.trans (hX.mono H.size)).size))))
 unfold avErr
 clear nv
 go_enter Tryz.func30, Tryz.ntmps30
 go_wp2_with fail
 have d0_o:w.heap.size≤w.heap.size+1:=by have:=hB.size;omega
 have sB:=hB.size
 refine world_cut (fun X=>Below w.heap.size w X∧Row X w.heap.size (.cells #[.string b1,.string b2,.slice pb mb cb,.string b3,.string b4] 58)∧Row X (w.heap.size+1) (.cells #[.string ⟨#[]⟩,.string ⟨#[]⟩,.string ⟨#[]⟩,.string ⟨#[]⟩] 30)∧Row X (w.heap.size+1+1) (.cells #[.string b1,.string b2,.slice pb mb cb,.string b3,.string b4] 58)) ⟨BW,RW8,RW8,RW8⟩ ?_
 clear hB sB
 rintro V1 ⟨hB,rf,ro,rb2⟩
 obtain ⟨sf,cf0,cf1,cf2,cf3,cf4⟩:=RF5 rf
 obtain ⟨so,co0,co1,co2,co3,fo0,fo1,fo2,fo3⟩:=RFz4 ro
 obtain ⟨sb2,cb20,cb21,cb22,cb23,cb24⟩:=RF5 rb2
 refine (avcompute_bad 86 _ _ _ a0 a1 _ (he.below hB) (fun X h=>CF _ _ (Row.below rb2 h) (hB.trans (h.mono hB.size)))).mono ?_
 rintro e W2 ⟨rfl,h1⟩
 have stp:=St3 hB h1 rf ro rb2;clear hB h1 rf sf cf0 cf1 cf2 cf3 cf4 ro so co0 co1 co2 co3 fo0 fo1 fo2 fo3 rb2 sb2 cb20 cb21 cb22 cb23 cb24
 obtain ⟨hB,rf,ro,rb2⟩:=stp
 obtain ⟨sf,cf0,cf1,cf2,cf3,cf4⟩:=RF5 rf
 obtain ⟨so,co0,co1,co2,co3,fo0,fo1,fo2,fo3⟩:=RFz4 ro
 obtain ⟨sb2,cb20,cb21,cb22,cb23,cb24⟩:=RF5 rb2
 go_wp2_with fail
 have sB:=hB.size
 refine post_cut (fun X=>Below w.heap.size w X∧Row X (w.heap.size+1) (.cells #[.string ⟨#[]⟩,.string ⟨#[]⟩,.string ⟨#[]⟩,.string ⟨#[]⟩] 30)) ⟨BW,RW8⟩ ?_
 clear rf
 clear sf cf0 cf1 cf2 cf3 cf4
 clear ro
 clear so co0 co1 co2 co3 fo0 fo1 fo2 fo3
 clear rb2
 clear sb2 cb20 cb21 cb22 cb23 cb24
 clear hB sB
 rintro V3 ⟨hB,ro⟩
 obtain ⟨so,co0,co1,co2,co3,fo0,fo1,fo2,fo3⟩:=RFz4 ro
 refine bodyPost_ret (v := .tuple #[.agg #[.string ⟨#[]⟩,.string ⟨#[]⟩,.string ⟨#[]⟩,.string ⟨#[]⟩],.int .i64 80]) ?res rfl ⟨rfl,hB⟩
 case res=>simp [results,Tryz.results30, go_sem,co0,co1,co2,co3]
theorem acombine_bad {a0 a1:Addr} {p q:Rat} {a:Frm} (oa:a.Ok) (da:FDig 200 a) (pa:Option Addr) (ca:Nat) (b1 b2 b3 b4:ByteArray) (pb:Option Addr) (mb cb:Nat) (w:World) (hpa:TAt 62 w pa a.t) (he:EnvA a0 a1 w) (nv:∀ W,Below w.heap.size w W→Calls Tryz.prog 34 #[.agg #[.string b1,.string b2,.slice pb mb cb,.string b3,.string b4]] W (BoolOk false W)):Calls Tryz.prog 77 #[FV a pa ca,.agg #[.string b1,.string b2,.slice pb mb cb,.string b3,.string b4],Q p,Q q] w (afErr w):=by
 have hB:Below w.heap.size w w:=Below.refl _ _
 have HPa:=Lib.hid hpa
 have CF:=fun s W (r:Row W s (.cells #[.string (S a.c.num),.string (S (a.c.den:Int)),.slice pa a.t.length ca,.string (S a.r.num),.string (S (a.r.den:Int)),.string b1,.string b2,.slice pb mb cb,.string b3,.string b4] 58)) (H:Below w.heap.size w W)=>containsb21 155 (enters_of Tryz.func155 (by kernel_rfl) rfl) s _ _ _ _ pa a.t.length ca b1 b2 b3 b4 pb mb cb W r (fun X hX=>afbad oa da pa ca X (UAt.below HPa.out (H.trans (hX.mono H.size))) (he.env.below (H.trans (hX.mono H.size)))) (fun X hX=>afbadB b1 b2 b3 b4 pb mb cb X (fun Y hY=>nv Y ((H.trans (hX.mono H.size)).trans (hY.mono (H.trans (hX.mono H.size)).size))))
 unfold afErr
 unfold FV
 unfold Q
 clear hpa nv
 go_enter Tryz.func77, Tryz.ntmps77
 go_wp2_with fail
 have d0_o:w.heap.size≤w.heap.size+1+1+1+1:=by have:=hB.size;omega
 have sB:=hB.size
 refine world_cut (fun X=>Below w.heap.size w X∧Row X w.heap.size (.cells #[.string (S a.c.num),.string (S (a.c.den:Int)),.slice pa a.t.length ca,.string (S a.r.num),.string (S (a.r.den:Int))] 58)∧Row X (w.heap.size+1) (.cells #[.string b1,.string b2,.slice pb mb cb,.string b3,.string b4] 58)∧Row X (w.heap.size+1+1) (.cells #[.string (S p.num),.string (S (p.den:Int))] 112)∧Row X (w.heap.size+1+1+1) (.cells #[.string (S q.num),.string (S (q.den:Int))] 112)∧Row X (w.heap.size+1+1+1+1) (.cells #[.string ⟨#[]⟩,.string ⟨#[]⟩,.slice none 0 0,.string ⟨#[]⟩,.string ⟨#[]⟩] 58)∧Row X (w.heap.size+1+1+1+1+1) (.cells #[.string (S a.c.num),.string (S (a.c.den:Int)),.slice pa a.t.length ca,.string (S a.r.num),.string (S (a.r.den:Int)),.string b1,.string b2,.slice pb mb cb,.string b3,.string b4] 58)) ⟨BW,RW8,RW8,RW8,RW8,RW8,RW8⟩ ?_
 clear hB sB
 rintro V1 ⟨hB,ra,rb,rp,rq,ro,rb5⟩
 obtain ⟨sa,ca0,ca1,ca2,ca3,ca4⟩:=RF5 ra
 obtain ⟨sb,cb0,cb1,cb2,cb3,cb4⟩:=RF5 rb
 obtain ⟨sp,cp0,cp1⟩:=RF2 rp
 obtain ⟨sq,cq0,cq1⟩:=RF2 rq
 obtain ⟨so,co0,co1,co2,co3,co4,fo0,fo1,fo2,fo3,fo4⟩:=RFz5 ro
 have Fb5:∀ X,Row X (w.heap.size+1+1+1+1+1) (.cells #[.string (S a.c.num),.string (S (a.c.den:Int)),.slice pa a.t.length ca,.string (S a.r.num),.string (S (a.r.den:Int)),.string b1,.string b2,.slice pb mb cb,.string b3,.string b4] 58)→(w.heap.size+1+1+1+1+1<X.heap.size∧X.cell? ⟨w.heap.size+1+1+1+1+1,0,none⟩=some (.string (S a.c.num))∧X.cell? ⟨w.heap.size+1+1+1+1+1,1,none⟩=some (.string (S (a.c.den:Int)))∧X.cell? ⟨w.heap.size+1+1+1+1+1,2,none⟩=some (.slice pa a.t.length ca)∧X.cell? ⟨w.heap.size+1+1+1+1+1,3,none⟩=some (.string (S a.r.num))∧X.cell? ⟨w.heap.size+1+1+1+1+1,4,none⟩=some (.string (S (a.r.den:Int)))∧X.cell? ⟨w.heap.size+1+1+1+1+1,5,none⟩=some (.string b1)∧X.cell? ⟨w.heap.size+1+1+1+1+1,6,none⟩=some (.string b2)∧X.cell? ⟨w.heap.size+1+1+1+1+1,7,none⟩=some (.slice pb mb cb)∧X.cell? ⟨w.heap.size+1+1+1+1+1,8,none⟩=some (.string b3)∧X.cell? ⟨w.heap.size+1+1+1+1+1,9,none⟩=some (.string b4)):=fun X h=>⟨h.1,Row.cell_at h 0 rfl,Row.cell_at h 1 rfl,Row.cell_at h 2 rfl,Row.cell_at h 3 rfl,Row.cell_at h 4 rfl,Row.cell_at h 5 rfl,Row.cell_at h 6 rfl,Row.cell_at h 7 rfl,Row.cell_at h 8 rfl,Row.cell_at h 9 rfl⟩
 obtain ⟨sb5,cb50,cb51,cb52,cb53,cb54,cb55,cb56,cb57,cb58,cb59⟩:=Fb5 _ rb5
 refine (afcompute_bad 151 _ _ _ a0 a1 _ (he.below hB) (fun X h=>CF _ _ (Row.below rb5 h) (hB.trans (h.mono hB.size)))).mono ?_
 rintro e W2 ⟨rfl,h1⟩
 have stp:=St6 hB h1 ra rb rp rq ro rb5;clear hB h1 ra sa ca0 ca1 ca2 ca3 ca4 rb sb cb0 cb1 cb2 cb3 cb4 rp sp cp0 cp1 rq sq cq0 cq1 ro so co0 co1 co2 co3 co4 fo0 fo1 fo2 fo3 fo4 rb5 sb5 cb50 cb51 cb52 cb53 cb54 cb55 cb56 cb57 cb58 cb59
 obtain ⟨hB,ra,rb,rp,rq,ro,rb5⟩:=stp
 obtain ⟨sa,ca0,ca1,ca2,ca3,ca4⟩:=RF5 ra
 obtain ⟨sb,cb0,cb1,cb2,cb3,cb4⟩:=RF5 rb
 obtain ⟨sp,cp0,cp1⟩:=RF2 rp
 obtain ⟨sq,cq0,cq1⟩:=RF2 rq
 obtain ⟨so,co0,co1,co2,co3,co4,fo0,fo1,fo2,fo3,fo4⟩:=RFz5 ro
 obtain ⟨sb5,cb50,cb51,cb52,cb53,cb54,cb55,cb56,cb57,cb58,cb59⟩:=Fb5 _ rb5
 go_wp2_with fail
 clear Fb5
 have sB:=hB.size
 refine post_cut (fun X=>Below w.heap.size w X∧Row X (w.heap.size+1+1+1+1) (.cells #[.string ⟨#[]⟩,.string ⟨#[]⟩,.slice none 0 0,.string ⟨#[]⟩,.string ⟨#[]⟩] 58)) ⟨BW,RW8⟩ ?_
 clear ra
 clear sa ca0 ca1 ca2 ca3 ca4
 clear rb
 clear sb cb0 cb1 cb2 cb3 cb4
 clear rp
 clear sp cp0 cp1
 clear rq
 clear sq cq0 cq1
 clear ro
 clear so co0 co1 co2 co3 co4 fo0 fo1 fo2 fo3 fo4
 clear rb5
 clear sb5 cb50 cb51 cb52 cb53 cb54 cb55 cb56 cb57 cb58 cb59
 clear hB sB
 rintro V3 ⟨hB,ro⟩
 obtain ⟨so,co0,co1,co2,co3,co4,fo0,fo1,fo2,fo3,fo4⟩:=RFz5 ro
 refine bodyPost_ret (v := .tuple #[.agg #[.string ⟨#[]⟩,.string ⟨#[]⟩,.slice none 0 0,.string ⟨#[]⟩,.string ⟨#[]⟩],.int .i64 80]) ?res rfl ⟨rfl,hB⟩
 case res=>simp [results,Tryz.results77, go_sem,co0,co1,co2,co3,co4]
theorem amul_bad {a0 a1:Addr} {a:Frm} (oa:a.Ok) (da:FDig 200 a) (pa:Option Addr) (ca:Nat) (b1 b2 b3 b4:ByteArray) (pb:Option Addr) (mb cb:Nat) (w:World) (hpa:TAt 62 w pa a.t) (he:EnvA a0 a1 w) (nv:∀ W,Below w.heap.size w W→Calls Tryz.prog 34 #[.agg #[.string b1,.string b2,.slice pb mb cb,.string b3,.string b4]] W (BoolOk false W)):Calls Tryz.prog 29 #[.agg #[.string b1,.string b2,.slice pb mb cb,.string b3,.string b4],FV a pa ca] w (afErr w):=by
 have hB:Below w.heap.size w w:=Below.refl _ _
 have HPa:=Lib.hid hpa
 have CF:=fun s W (r:Row W s (.cells #[.string b1,.string b2,.slice pb mb cb,.string b3,.string b4,.string (S a.c.num),.string (S (a.c.den:Int)),.slice pa a.t.length ca,.string (S a.r.num),.string (S (a.r.den:Int))] 58)) (H:Below w.heap.size w W)=>containsb20 155 (enters_of Tryz.func155 (by kernel_rfl) rfl) s b1 b2 b3 b4 pb mb cb _ _ _ _ pa a.t.length ca W r (fun X hX=>afbadB b1 b2 b3 b4 pb mb cb X (fun Y hY=>nv Y ((H.trans (hX.mono H.size)).trans (hY.mono (H.trans (hX.mono H.size)).size))))
 unfold afErr
 unfold FV
 clear hpa nv
 go_enter Tryz.func29, Tryz.ntmps29
 go_wp2_with fail
 have d0_o:w.heap.size≤w.heap.size+1+1:=by have:=hB.size;omega
 have sB:=hB.size
 refine world_cut (fun X=>Below w.heap.size w X∧Row X w.heap.size (.cells #[.string b1,.string b2,.slice pb mb cb,.string b3,.string b4] 58)∧Row X (w.heap.size+1) (.cells #[.string (S a.c.num),.string (S (a.c.den:Int)),.slice pa a.t.length ca,.string (S a.r.num),.string (S (a.r.den:Int))] 58)∧Row X (w.heap.size+1+1) (.cells #[.string ⟨#[]⟩,.string ⟨#[]⟩,.slice none 0 0,.string ⟨#[]⟩,.string ⟨#[]⟩] 58)∧Row X (w.heap.size+1+1+1) (.cells #[.string b1,.string b2,.slice pb mb cb,.string b3,.string b4,.string (S a.c.num),.string (S (a.c.den:Int)),.slice pa a.t.length ca,.string (S a.r.num),.string (S (a.r.den:Int))] 58)) ⟨BW,RW8,RW8,RW8,RW8⟩ ?_
 clear hB sB
 rintro V1 ⟨hB,rb,ra,ro,rb3⟩
 obtain ⟨sb,cb0,cb1,cb2,cb3,cb4⟩:=RF5 rb
 obtain ⟨sa,ca0,ca1,ca2,ca3,ca4⟩:=RF5 ra
 obtain ⟨so,co0,co1,co2,co3,co4,fo0,fo1,fo2,fo3,fo4⟩:=RFz5 ro
 have Fb3:∀ X,Row X (w.heap.size+1+1+1) (.cells #[.string b1,.string b2,.slice pb mb cb,.string b3,.string b4,.string (S a.c.num),.string (S (a.c.den:Int)),.slice pa a.t.length ca,.string (S a.r.num),.string (S (a.r.den:Int))] 58)→(w.heap.size+1+1+1<X.heap.size∧X.cell? ⟨w.heap.size+1+1+1,0,none⟩=some (.string b1)∧X.cell? ⟨w.heap.size+1+1+1,1,none⟩=some (.string b2)∧X.cell? ⟨w.heap.size+1+1+1,2,none⟩=some (.slice pb mb cb)∧X.cell? ⟨w.heap.size+1+1+1,3,none⟩=some (.string b3)∧X.cell? ⟨w.heap.size+1+1+1,4,none⟩=some (.string b4)∧X.cell? ⟨w.heap.size+1+1+1,5,none⟩=some (.string (S a.c.num))∧X.cell? ⟨w.heap.size+1+1+1,6,none⟩=some (.string (S (a.c.den:Int)))∧X.cell? ⟨w.heap.size+1+1+1,7,none⟩=some (.slice pa a.t.length ca)∧X.cell? ⟨w.heap.size+1+1+1,8,none⟩=some (.string (S a.r.num))∧X.cell? ⟨w.heap.size+1+1+1,9,none⟩=some (.string (S (a.r.den:Int)))):=fun X h=>⟨h.1,Row.cell_at h 0 rfl,Row.cell_at h 1 rfl,Row.cell_at h 2 rfl,Row.cell_at h 3 rfl,Row.cell_at h 4 rfl,Row.cell_at h 5 rfl,Row.cell_at h 6 rfl,Row.cell_at h 7 rfl,Row.cell_at h 8 rfl,Row.cell_at h 9 rfl⟩
 obtain ⟨sb3,cb30,cb31,cb32,cb33,cb34,cb35,cb36,cb37,cb38,cb39⟩:=Fb3 _ rb3
 refine (afcompute_bad 80 _ _ _ a0 a1 _ (he.below hB) (fun X h=>CF _ _ (Row.below rb3 h) (hB.trans (h.mono hB.size)))).mono ?_
 rintro e W2 ⟨rfl,h1⟩
 have stp:=St4 hB h1 rb ra ro rb3;clear hB h1 rb sb cb0 cb1 cb2 cb3 cb4 ra sa ca0 ca1 ca2 ca3 ca4 ro so co0 co1 co2 co3 co4 fo0 fo1 fo2 fo3 fo4 rb3 sb3 cb30 cb31 cb32 cb33 cb34 cb35 cb36 cb37 cb38 cb39
 obtain ⟨hB,rb,ra,ro,rb3⟩:=stp
 obtain ⟨sb,cb0,cb1,cb2,cb3,cb4⟩:=RF5 rb
 obtain ⟨sa,ca0,ca1,ca2,ca3,ca4⟩:=RF5 ra
 obtain ⟨so,co0,co1,co2,co3,co4,fo0,fo1,fo2,fo3,fo4⟩:=RFz5 ro
 obtain ⟨sb3,cb30,cb31,cb32,cb33,cb34,cb35,cb36,cb37,cb38,cb39⟩:=Fb3 _ rb3
 go_wp2_with fail
 clear Fb3
 have sB:=hB.size
 refine post_cut (fun X=>Below w.heap.size w X∧Row X (w.heap.size+1+1) (.cells #[.string ⟨#[]⟩,.string ⟨#[]⟩,.slice none 0 0,.string ⟨#[]⟩,.string ⟨#[]⟩] 58)) ⟨BW,RW8⟩ ?_
 clear rb
 clear sb cb0 cb1 cb2 cb3 cb4
 clear ra
 clear sa ca0 ca1 ca2 ca3 ca4
 clear ro
 clear so co0 co1 co2 co3 co4 fo0 fo1 fo2 fo3 fo4
 clear rb3
 clear sb3 cb30 cb31 cb32 cb33 cb34 cb35 cb36 cb37 cb38 cb39
 clear hB sB
 rintro V3 ⟨hB,ro⟩
 obtain ⟨so,co0,co1,co2,co3,co4,fo0,fo1,fo2,fo3,fo4⟩:=RFz5 ro
 refine bodyPost_ret (v := .tuple #[.agg #[.string ⟨#[]⟩,.string ⟨#[]⟩,.slice none 0 0,.string ⟨#[]⟩,.string ⟨#[]⟩],.int .i64 80]) ?res rfl ⟨rfl,hB⟩
 case res=>simp [results,Tryz.results29, go_sem,co0,co1,co2,co3,co4]
theorem aadd_bad {a0 a1:Addr} {a:Frm} (oa:a.Ok) (da:FDig 200 a) (pa:Option Addr) (ca:Nat) (b1 b2 b3 b4:ByteArray) (pb:Option Addr) (mb cb:Nat) (w:World) (hpa:TAt 62 w pa a.t) (he:EnvA a0 a1 w) (nv:∀ W,Below w.heap.size w W→Calls Tryz.prog 34 #[.agg #[.string b1,.string b2,.slice pb mb cb,.string b3,.string b4]] W (BoolOk false W)):Calls Tryz.prog 28 #[FV a pa ca,.agg #[.string b1,.string b2,.slice pb mb cb,.string b3,.string b4]] w (afErr w):=by
 have hB:Below w.heap.size w w:=Below.refl _ _
 have HPa:=Lib.hid hpa
 have M1:=fun W (H:Env W)=>awhole (n:=1) (by decide) whole1 W H
 have MC:=fun W (H:Below w.heap.size w W)=>acombine_bad (p:=1) (q:=1) oa da pa ca b1 b2 b3 b4 pb mb cb W (UAt.below HPa.out H) (he.below H) (fun Y hY=>nv Y (H.trans (hY.mono H.size)))
 unfold afErr at MC
 unfold afErr
 unfold QIs at M1
 unfold FV Q at *
 generalize (1:Rat)=o1 at *
 clear hpa nv
 go_enter Tryz.func28, Tryz.ntmps28
 go_wp2_with fail
 have d0_o:w.heap.size≤w.heap.size+1+1:=by have:=hB.size;omega
 have sB:=hB.size
 refine wp_cut (fun X=>Below w.heap.size w X∧Row X w.heap.size (.cells #[.string (S a.c.num),.string (S (a.c.den:Int)),.slice pa a.t.length ca,.string (S a.r.num),.string (S (a.r.den:Int))] 58)∧Row X (w.heap.size+1) (.cells #[.string b1,.string b2,.slice pb mb cb,.string b3,.string b4] 58)∧Row X (w.heap.size+1+1) (.cells #[.string ⟨#[]⟩,.string ⟨#[]⟩,.slice none 0 0,.string ⟨#[]⟩,.string ⟨#[]⟩] 58)) ⟨BW,RW8,RW8,RW8⟩ ?_
 clear hB sB
 rintro V1 ⟨hB,ra,rb,ro⟩
 obtain ⟨sa,ca0,ca1,ca2,ca3,ca4⟩:=RF5 ra
 obtain ⟨sb,cb0,cb1,cb2,cb3,cb4⟩:=RF5 rb
 obtain ⟨so,co0,co1,co2,co3,co4,fo0,fo1,fo2,fo3,fo4⟩:=RFz5 ro
 refine wp_region_late 7 [6] [.val (.agg #[.string (S a.c.num),.string (S (a.c.den:Int)),.slice pa a.t.length ca,.string (S a.r.num),.string (S (a.r.den:Int))]),.val (.agg #[.string b1,.string b2,.slice pb mb cb,.string b3,.string b4]),.val (.agg #[.string (S o1.num),.string (S (o1.den:Int))]),.val (.agg #[.string (S o1.num),.string (S (o1.den:Int))]),.val (.tuple #[.agg #[.string ⟨#[]⟩,.string ⟨#[]⟩,.slice none 0 0,.string ⟨#[]⟩,.string ⟨#[]⟩],.int .i64 80]),.val (.agg #[.string ⟨#[]⟩,.string ⟨#[]⟩,.slice none 0 0,.string ⟨#[]⟩,.string ⟨#[]⟩]),.val (.int .i64 80)] [] (by kernel_rfl) (by kernel_rfl) (by kernel_rfl) rfl trivial (allItems.cons (qi1 fun X h=>RF5 (Row.below ra h)) (allItems.cons (qi1 fun X h=>RF5 (Row.below rb h)) (allItems.cons (qi2 fun X h=>M1 X (he.env.below (hB.trans (h.mono hB.size)))) (allItems.cons (qi2 fun X h=>M1 X (he.env.below (hB.trans (h.mono hB.size)))) (allItems.cons (qi2 fun X h=>MC X (hB.trans (h.mono hB.size))) (allItems.cons qi0 (allItems.cons qi0 trivial))))))) ?_
 rintro W h1
 have stp:=St3 hB h1 ra rb ro;clear hB h1 ra sa ca0 ca1 ca2 ca3 ca4 rb sb cb0 cb1 cb2 cb3 cb4 ro so co0 co1 co2 co3 co4 fo0 fo1 fo2 fo3 fo4
 obtain ⟨hB,ra,rb,ro⟩:=stp
 obtain ⟨sa,ca0,ca1,ca2,ca3,ca4⟩:=RF5 ra
 obtain ⟨sb,cb0,cb1,cb2,cb3,cb4⟩:=RF5 rb
 obtain ⟨so,co0,co1,co2,co3,co4,fo0,fo1,fo2,fo3,fo4⟩:=RFz5 ro
 simp only [setItems,List.setIfInBounds_toArray,List.set_cons_succ,List.set_cons_zero,List.take_succ_cons,List.take_zero,List.drop_succ_cons,List.drop_zero]
 intro _
 go_wp2_with fail
 unfold normalQ
 go_wp2_with fail
 have sB:=hB.size
 refine post_cut (fun X=>Below w.heap.size w X∧Row X (w.heap.size+1+1) (.cells #[.string ⟨#[]⟩,.string ⟨#[]⟩,.slice none 0 0,.string ⟨#[]⟩,.string ⟨#[]⟩] 58)) ⟨BW,RW8⟩ ?_
 clear ra
 clear sa ca0 ca1 ca2 ca3 ca4
 clear rb
 clear sb cb0 cb1 cb2 cb3 cb4
 clear ro
 clear so co0 co1 co2 co3 co4 fo0 fo1 fo2 fo3 fo4
 clear hB sB
 rintro V2 ⟨hB,ro⟩
 obtain ⟨so,co0,co1,co2,co3,co4,fo0,fo1,fo2,fo3,fo4⟩:=RFz5 ro
 refine bodyPost_ret (v := .tuple #[.agg #[.string ⟨#[]⟩,.string ⟨#[]⟩,.slice none 0 0,.string ⟨#[]⟩,.string ⟨#[]⟩],.int .i64 80]) ?res rfl ⟨rfl,hB⟩
 case res=>simp [results,Tryz.results28, go_sem,co0,co1,co2,co3,co4]
end Go.Proofs.YtnokpldomlmamaaGreatDoor
namespace Go.Proofs.YtnokpldomlmamaaGreatDoor
open Go Go.RowKit Go.Lib Go.Shelf
attribute [local go_sem] normalQ
theorem at1_bad0 {a0 a1:Addr} (f0:Value) (pv:Option Addr) (m cv:Nat) (hm:m≤64) (bv:Nat) (w:World) (rv:Row w bv (.cells #[.slice pv m cv] 56)) (he:EnvA a0 a1 w) (MA:∀ W,Below w.heap.size w W→Calls Tryz.prog 92 #[.slice pv m cv,.func (.func 93) #[] #[]] W (BoolOk false W)):Calls Tryz.prog 88 #[.pointer (some ⟨bv,0,none⟩),f0] w (FailsOk a1 w):=by
 have hB:Below w.heap.size w w:=Below.refl _ _
 have hmI:(m:Int)≤64:=by omega
 have hmI2:¬ (64:Int)<(m:Int):=by omega
 unfold BoolOk at MA
 unfold FailsOk
 obtain ⟨sv,cv0⟩:=RF1 rv
 go_enter Tryz.func88, Tryz.ntmps88
 go_wp2_with fail
 have dv_o:bv<w.heap.size:=by omega
 have d0_o:w.heap.size≤w.heap.size:=by have:=hB.size;omega
 have sB:=hB.size
 refine world_cut (fun X=>Below w.heap.size w X∧Row X bv (.cells #[.slice pv m cv] 56)∧Row X w.heap.size (.cells #[.string ⟨#[]⟩,.string ⟨#[]⟩,.string ⟨#[]⟩,.string ⟨#[]⟩] 30)) ⟨BW,RW8,RW8⟩ ?_
 clear rv
 clear sv cv0
 clear hB sB
 rintro V1 ⟨hB,rv,ro⟩
 obtain ⟨sv,cv0⟩:=RF1 rv
 obtain ⟨so,co0,co1,co2,co3,fo0,fo1,fo2,fo3⟩:=RFz4 ro
 refine (MA _ hB).mono ?_
 rintro e W2 ⟨rfl,h1⟩
 have stp:=St2 hB h1 rv ro;clear hB h1 rv sv cv0 ro so co0 co1 co2 co3 fo0 fo1 fo2 fo3
 obtain ⟨hB,rv,ro⟩:=stp
 obtain ⟨sv,cv0⟩:=RF1 rv
 obtain ⟨so,co0,co1,co2,co3,fo0,fo1,fo2,fo3⟩:=RFz4 ro
 go_wp2_with fail
 refine (acheck_false _ (he.below hB)).mono ?_
 rintro e W9 ⟨rfl,h1⟩
 exact ⟨rfl,rfl,hB.trans (h1.mono hB.size)⟩
theorem at1_bad1 {a0 a1:Addr} (f0:Value) (pv:Option Addr) (m cv:Nat) (hm:m≤64) (bv:Nat) (w:World) (rv:Row w bv (.cells #[.slice pv m cv] 56)) (he:EnvA a0 a1 w) (MA:∀ W,Below w.heap.size w W→Calls Tryz.prog 92 #[.slice pv m cv,.func (.func 93) #[] #[]] W (BoolOk true W)) (MW:∀ W,Below w.heap.size w W→Calls Tryz.prog 94 #[.slice pv m cv,.func (.func 89) #[] #[]] W (BoolOk true W)):Calls Tryz.prog 88 #[.pointer (some ⟨bv,0,none⟩),f0] w (FailsOk a1 w):=by
 have hB:Below w.heap.size w w:=Below.refl _ _
 have hmI:(m:Int)≤64:=by omega
 have hmI2:¬ (64:Int)<(m:Int):=by omega
 unfold BoolOk at MA MW
 unfold FailsOk
 obtain ⟨sv,cv0⟩:=RF1 rv
 go_enter Tryz.func88, Tryz.ntmps88
 go_wp2_with fail
 have dv_o:bv<w.heap.size:=by omega
 have d0_o:w.heap.size≤w.heap.size:=by have:=hB.size;omega
 have sB:=hB.size
 refine world_cut (fun X=>Below w.heap.size w X∧Row X bv (.cells #[.slice pv m cv] 56)∧Row X w.heap.size (.cells #[.string ⟨#[]⟩,.string ⟨#[]⟩,.string ⟨#[]⟩,.string ⟨#[]⟩] 30)) ⟨BW,RW8,RW8⟩ ?_
 clear rv
 clear sv cv0
 clear hB sB
 rintro V1 ⟨hB,rv,ro⟩
 obtain ⟨sv,cv0⟩:=RF1 rv
 obtain ⟨so,co0,co1,co2,co3,fo0,fo1,fo2,fo3⟩:=RFz4 ro
 refine (MA _ hB).mono ?_
 rintro e W2 ⟨rfl,h1⟩
 have stp:=St2 hB h1 rv ro;clear hB h1 rv sv cv0 ro so co0 co1 co2 co3 fo0 fo1 fo2 fo3
 obtain ⟨hB,rv,ro⟩:=stp
 obtain ⟨sv,cv0⟩:=RF1 rv
 obtain ⟨so,co0,co1,co2,co3,fo0,fo1,fo2,fo3⟩:=RFz4 ro
 go_wp2_with fail
 refine (MW _ hB).mono ?_
 rintro e W3 ⟨rfl,h1⟩
 have stp:=St2 hB h1 rv ro;clear hB h1 rv sv cv0 ro so co0 co1 co2 co3 fo0 fo1 fo2 fo3
 obtain ⟨hB,rv,ro⟩:=stp
 obtain ⟨sv,cv0⟩:=RF1 rv
 obtain ⟨so,co0,co1,co2,co3,fo0,fo1,fo2,fo3⟩:=RFz4 ro
 go_wp2_with fail
 refine (acheck_false _ (he.below hB)).mono ?_
 rintro e W9 ⟨rfl,h1⟩
 exact ⟨rfl,rfl,hB.trans (h1.mono hB.size)⟩
theorem cov1_bad0 {a0 a1:Addr} (f0 f1:Value) (pv:Option Addr) (m cv:Nat) (hm:m≤128) (bv:Nat) (w:World) (rv:Row w bv (.cells #[.slice pv m cv] 71)) (he:EnvA a0 a1 w) (MA:∀ W,Below w.heap.size w W→Calls Tryz.prog 99 #[.slice pv m cv,.func (.func 100) #[] #[]] W (BoolOk false W)):Calls Tryz.prog 97 #[.pointer (some ⟨bv,0,none⟩),f0,f1] w (FailsOk a1 w):=by
 have hB:Below w.heap.size w w:=Below.refl _ _
 have hmI:(m:Int)≤128:=by omega
 have hmI2:¬ (128:Int)<(m:Int):=by omega
 unfold BoolOk at MA
 unfold FailsOk
 obtain ⟨sv,cv0⟩:=RF1 rv
 go_enter Tryz.func97, Tryz.ntmps97
 go_wp2_with fail
 have dv_o:bv<w.heap.size:=by omega
 have d0_o:w.heap.size≤w.heap.size:=by have:=hB.size;omega
 have sB:=hB.size
 refine world_cut (fun X=>Below w.heap.size w X∧Row X bv (.cells #[.slice pv m cv] 71)∧Row X w.heap.size (.cells #[.string ⟨#[]⟩,.string ⟨#[]⟩] 23)) ⟨BW,RW8,RW8⟩ ?_
 clear rv
 clear sv cv0
 clear hB sB
 rintro V1 ⟨hB,rv,ro⟩
 obtain ⟨sv,cv0⟩:=RF1 rv
 obtain ⟨so,co0,co1,fo0,fo1⟩:=RFz2 ro
 refine (MA _ hB).mono ?_
 rintro e W2 ⟨rfl,h1⟩
 have stp:=St2 hB h1 rv ro;clear hB h1 rv sv cv0 ro so co0 co1 fo0 fo1
 obtain ⟨hB,rv,ro⟩:=stp
 obtain ⟨sv,cv0⟩:=RF1 rv
 obtain ⟨so,co0,co1,fo0,fo1⟩:=RFz2 ro
 go_wp2_with fail
 refine (acheck_false _ (he.below hB)).mono ?_
 rintro e W9 ⟨rfl,h1⟩
 exact ⟨rfl,rfl,hB.trans (h1.mono hB.size)⟩
theorem cov1_bad1 {a0 a1:Addr} (f0 f1:Value) (pv:Option Addr) (m cv:Nat) (hm:m≤128) (bv:Nat) (w:World) (rv:Row w bv (.cells #[.slice pv m cv] 71)) (he:EnvA a0 a1 w) (MA:∀ W,Below w.heap.size w W→Calls Tryz.prog 99 #[.slice pv m cv,.func (.func 100) #[] #[]] W (BoolOk true W)) (MW:∀ W,Below w.heap.size w W→Calls Tryz.prog 101 #[.slice pv m cv,.func (.func 98) #[] #[]] W (BoolOk true W)):Calls Tryz.prog 97 #[.pointer (some ⟨bv,0,none⟩),f0,f1] w (FailsOk a1 w):=by
 have hB:Below w.heap.size w w:=Below.refl _ _
 have hmI:(m:Int)≤128:=by omega
 have hmI2:¬ (128:Int)<(m:Int):=by omega
 unfold BoolOk at MA MW
 unfold FailsOk
 obtain ⟨sv,cv0⟩:=RF1 rv
 go_enter Tryz.func97, Tryz.ntmps97
 go_wp2_with fail
 have dv_o:bv<w.heap.size:=by omega
 have d0_o:w.heap.size≤w.heap.size:=by have:=hB.size;omega
 have sB:=hB.size
 refine world_cut (fun X=>Below w.heap.size w X∧Row X bv (.cells #[.slice pv m cv] 71)∧Row X w.heap.size (.cells #[.string ⟨#[]⟩,.string ⟨#[]⟩] 23)) ⟨BW,RW8,RW8⟩ ?_
 clear rv
 clear sv cv0
 clear hB sB
 rintro V1 ⟨hB,rv,ro⟩
 obtain ⟨sv,cv0⟩:=RF1 rv
 obtain ⟨so,co0,co1,fo0,fo1⟩:=RFz2 ro
 refine (MA _ hB).mono ?_
 rintro e W2 ⟨rfl,h1⟩
 have stp:=St2 hB h1 rv ro;clear hB h1 rv sv cv0 ro so co0 co1 fo0 fo1
 obtain ⟨hB,rv,ro⟩:=stp
 obtain ⟨sv,cv0⟩:=RF1 rv
 obtain ⟨so,co0,co1,fo0,fo1⟩:=RFz2 ro
 go_wp2_with fail
 refine (MW _ hB).mono ?_
 rintro e W3 ⟨rfl,h1⟩
 have stp:=St2 hB h1 rv ro;clear hB h1 rv sv cv0 ro so co0 co1 fo0 fo1
 obtain ⟨hB,rv,ro⟩:=stp
 obtain ⟨sv,cv0⟩:=RF1 rv
 obtain ⟨so,co0,co1,fo0,fo1⟩:=RFz2 ro
 go_wp2_with fail
 refine (acheck_false _ (he.below hB)).mono ?_
 rintro e W9 ⟨rfl,h1⟩
 exact ⟨rfl,rfl,hB.trans (h1.mono hB.size)⟩
theorem aat_bad0 {a0 a1:Addr} {a:Frm} (oa:a.Ok) (da:FDig 200 a) (pa:Option Addr) (ca:Nat) (pv:Option Addr) (m cv:Nat) (hm:m≤64) (w:World) (hpa:TAt 62 w pa a.t) (he:EnvA a0 a1 w) (MA:∀ W,Below w.heap.size w W→Calls Tryz.prog 92 #[.slice pv m cv,.func (.func 93) #[] #[]] W (BoolOk false W)):Calls Tryz.prog 31 #[FV a pa ca,.slice pv m cv] w (avErr w):=by
 have hB:Below w.heap.size w w:=Below.refl _ _
 have HPa:=Lib.hid hpa
 have CF:=fun s W (r:Row W s (.cells #[.string (S a.c.num),.string (S (a.c.den:Int)),.slice pa a.t.length ca,.string (S a.r.num),.string (S (a.r.den:Int))] 58)) (ha:TAt 62 W pa a.t) (H:Env W)=>fcontains1 160 (enters_of Tryz.func160 (by kernel_rfl) rfl) s a pa ca W r (fun X hX=>avbad oa da pa ca X (UAt.below ha hX) (H.below hX))
 have CR:=fun (f0:Value) bv W (rv:Row W bv (.cells #[.slice pv m cv] 56)) (H:Below w.heap.size w W)=>at1_bad0 f0 pv m cv hm bv W rv (he.below H) (fun Y hY=>MA Y (H.trans (hY.mono H.size)))
 unfold avErr
 unfold FV
 clear hpa oa da MA
 go_enter Tryz.func31, Tryz.ntmps31
 go_wp2_with fail
 have d0_o:w.heap.size≤w.heap.size+1+1:=by have:=hB.size;omega
 have sB:=hB.size
 refine world_cut (fun X=>Below w.heap.size w X∧Row X w.heap.size (.cells #[.string (S a.c.num),.string (S (a.c.den:Int)),.slice pa a.t.length ca,.string (S a.r.num),.string (S (a.r.den:Int))] 58)∧Row X (w.heap.size+1) (.cells #[.slice pv m cv] 56)∧Row X (w.heap.size+1+1) (.cells #[.string ⟨#[]⟩,.string ⟨#[]⟩,.string ⟨#[]⟩,.string ⟨#[]⟩] 30)∧Row X (w.heap.size+1+1+1) (.cells #[.string (S a.c.num),.string (S (a.c.den:Int)),.slice pa a.t.length ca,.string (S a.r.num),.string (S (a.r.den:Int))] 58)) ⟨BW,RW8,RW8,RW8,RW8⟩ ?_
 clear hB sB
 rintro V1 ⟨hB,ra,rv,ro,rb3⟩
 obtain ⟨sa,ca0,ca1,ca2,ca3,ca4⟩:=RF5 ra
 obtain ⟨sv,cv0⟩:=RF1 rv
 obtain ⟨so,co0,co1,co2,co3,fo0,fo1,fo2,fo3⟩:=RFz4 ro
 obtain ⟨sb3,cb30,cb31,cb32,cb33,cb34⟩:=RF5 rb3
 refine (avcompute_err 88 _ _ _ a0 a1 _ (he.below hB) (enters_of Tryz.func88 (by kernel_rfl) rfl) (fun X h=>CF _ _ (Row.below rb3 h) (UAt.below HPa.out (hB.trans (h.mono hB.size))) (he.env.below (hB.trans (h.mono hB.size)))) (fun X h=>CR _ _ _ (Row.below rv h) (hB.trans (h.mono hB.size)))).mono ?_
 rintro e W2 ⟨rfl,h1⟩
 have stp:=St4 hB h1 ra rv ro rb3;clear hB h1 ra sa ca0 ca1 ca2 ca3 ca4 rv sv cv0 ro so co0 co1 co2 co3 fo0 fo1 fo2 fo3 rb3 sb3 cb30 cb31 cb32 cb33 cb34
 obtain ⟨hB,ra,rv,ro,rb3⟩:=stp
 obtain ⟨sa,ca0,ca1,ca2,ca3,ca4⟩:=RF5 ra
 obtain ⟨sv,cv0⟩:=RF1 rv
 obtain ⟨so,co0,co1,co2,co3,fo0,fo1,fo2,fo3⟩:=RFz4 ro
 obtain ⟨sb3,cb30,cb31,cb32,cb33,cb34⟩:=RF5 rb3
 go_wp2_with fail
 have sB:=hB.size
 refine post_cut (fun X=>Below w.heap.size w X∧Row X (w.heap.size+1+1) (.cells #[.string ⟨#[]⟩,.string ⟨#[]⟩,.string ⟨#[]⟩,.string ⟨#[]⟩] 30)) ⟨BW,RW8⟩ ?_
 clear ra
 clear sa ca0 ca1 ca2 ca3 ca4
 clear rv
 clear sv cv0
 clear ro
 clear so co0 co1 co2 co3 fo0 fo1 fo2 fo3
 clear rb3
 clear sb3 cb30 cb31 cb32 cb33 cb34
 clear hB sB
 rintro V3 ⟨hB,ro⟩
 obtain ⟨so,co0,co1,co2,co3,fo0,fo1,fo2,fo3⟩:=RFz4 ro
 refine bodyPost_ret (v := .tuple #[.agg #[.string ⟨#[]⟩,.string ⟨#[]⟩,.string ⟨#[]⟩,.string ⟨#[]⟩],.int .i64 80]) ?res rfl ⟨rfl,hB⟩
 case res=>simp [results,Tryz.results31, go_sem,co0,co1,co2,co3]
theorem aat_bad1 {a0 a1:Addr} {a:Frm} (oa:a.Ok) (da:FDig 200 a) (pa:Option Addr) (ca:Nat) (pv:Option Addr) (m cv:Nat) (hm:m≤64) (w:World) (hpa:TAt 62 w pa a.t) (he:EnvA a0 a1 w) (MA:∀ W,Below w.heap.size w W→Calls Tryz.prog 92 #[.slice pv m cv,.func (.func 93) #[] #[]] W (BoolOk true W)) (MW:∀ W,Below w.heap.size w W→Calls Tryz.prog 94 #[.slice pv m cv,.func (.func 89) #[] #[]] W (BoolOk true W)):Calls Tryz.prog 31 #[FV a pa ca,.slice pv m cv] w (avErr w):=by
 have hB:Below w.heap.size w w:=Below.refl _ _
 have HPa:=Lib.hid hpa
 have CF:=fun s W (r:Row W s (.cells #[.string (S a.c.num),.string (S (a.c.den:Int)),.slice pa a.t.length ca,.string (S a.r.num),.string (S (a.r.den:Int))] 58)) (ha:TAt 62 W pa a.t) (H:Env W)=>fcontains1 160 (enters_of Tryz.func160 (by kernel_rfl) rfl) s a pa ca W r (fun X hX=>avbad oa da pa ca X (UAt.below ha hX) (H.below hX))
 have CR:=fun (f0:Value) bv W (rv:Row W bv (.cells #[.slice pv m cv] 56)) (H:Below w.heap.size w W)=>at1_bad1 f0 pv m cv hm bv W rv (he.below H) (fun Y hY=>MA Y (H.trans (hY.mono H.size))) (fun Y hY=>MW Y (H.trans (hY.mono H.size)))
 unfold avErr
 unfold FV
 clear hpa oa da MA MW
 go_enter Tryz.func31, Tryz.ntmps31
 go_wp2_with fail
 have d0_o:w.heap.size≤w.heap.size+1+1:=by have:=hB.size;omega
 have sB:=hB.size
 refine world_cut (fun X=>Below w.heap.size w X∧Row X w.heap.size (.cells #[.string (S a.c.num),.string (S (a.c.den:Int)),.slice pa a.t.length ca,.string (S a.r.num),.string (S (a.r.den:Int))] 58)∧Row X (w.heap.size+1) (.cells #[.slice pv m cv] 56)∧Row X (w.heap.size+1+1) (.cells #[.string ⟨#[]⟩,.string ⟨#[]⟩,.string ⟨#[]⟩,.string ⟨#[]⟩] 30)∧Row X (w.heap.size+1+1+1) (.cells #[.string (S a.c.num),.string (S (a.c.den:Int)),.slice pa a.t.length ca,.string (S a.r.num),.string (S (a.r.den:Int))] 58)) ⟨BW,RW8,RW8,RW8,RW8⟩ ?_
 clear hB sB
 rintro V1 ⟨hB,ra,rv,ro,rb3⟩
 obtain ⟨sa,ca0,ca1,ca2,ca3,ca4⟩:=RF5 ra
 obtain ⟨sv,cv0⟩:=RF1 rv
 obtain ⟨so,co0,co1,co2,co3,fo0,fo1,fo2,fo3⟩:=RFz4 ro
 obtain ⟨sb3,cb30,cb31,cb32,cb33,cb34⟩:=RF5 rb3
 refine (avcompute_err 88 _ _ _ a0 a1 _ (he.below hB) (enters_of Tryz.func88 (by kernel_rfl) rfl) (fun X h=>CF _ _ (Row.below rb3 h) (UAt.below HPa.out (hB.trans (h.mono hB.size))) (he.env.below (hB.trans (h.mono hB.size)))) (fun X h=>CR _ _ _ (Row.below rv h) (hB.trans (h.mono hB.size)))).mono ?_
 rintro e W2 ⟨rfl,h1⟩
 have stp:=St4 hB h1 ra rv ro rb3;clear hB h1 ra sa ca0 ca1 ca2 ca3 ca4 rv sv cv0 ro so co0 co1 co2 co3 fo0 fo1 fo2 fo3 rb3 sb3 cb30 cb31 cb32 cb33 cb34
 obtain ⟨hB,ra,rv,ro,rb3⟩:=stp
 obtain ⟨sa,ca0,ca1,ca2,ca3,ca4⟩:=RF5 ra
 obtain ⟨sv,cv0⟩:=RF1 rv
 obtain ⟨so,co0,co1,co2,co3,fo0,fo1,fo2,fo3⟩:=RFz4 ro
 obtain ⟨sb3,cb30,cb31,cb32,cb33,cb34⟩:=RF5 rb3
 go_wp2_with fail
 have sB:=hB.size
 refine post_cut (fun X=>Below w.heap.size w X∧Row X (w.heap.size+1+1) (.cells #[.string ⟨#[]⟩,.string ⟨#[]⟩,.string ⟨#[]⟩,.string ⟨#[]⟩] 30)) ⟨BW,RW8⟩ ?_
 clear ra
 clear sa ca0 ca1 ca2 ca3 ca4
 clear rv
 clear sv cv0
 clear ro
 clear so co0 co1 co2 co3 fo0 fo1 fo2 fo3
 clear rb3
 clear sb3 cb30 cb31 cb32 cb33 cb34
 clear hB sB
 rintro V3 ⟨hB,ro⟩
 obtain ⟨so,co0,co1,co2,co3,fo0,fo1,fo2,fo3⟩:=RFz4 ro
 refine bodyPost_ret (v := .tuple #[.agg #[.string ⟨#[]⟩,.string ⟨#[]⟩,.string ⟨#[]⟩,.string ⟨#[]⟩],.int .i64 80]) ?res rfl ⟨rfl,hB⟩
 case res=>simp [results,Tryz.results31, go_sem,co0,co1,co2,co3]
theorem acov_bad0 {a0 a1:Addr} {a:Frm} (oa:a.Ok) (da:FDig 200 a) (pa:Option Addr) (ca:Nat) {b:Frm} (ob:b.Ok) (db:FDig 200 b) (pb:Option Addr) (cb:Nat) (pv:Option Addr) (m cv:Nat) (hm:m≤128) (w:World) (hpa:TAt 62 w pa a.t) (hpb:TAt 62 w pb b.t) (he:EnvA a0 a1 w) (MA:∀ W,Below w.heap.size w W→Calls Tryz.prog 99 #[.slice pv m cv,.func (.func 100) #[] #[]] W (BoolOk false W)):Calls Tryz.prog 32 #[FV a pa ca,FV b pb cb,.slice pv m cv] w (arErr w):=by
 have hB:Below w.heap.size w w:=Below.refl _ _
 have HPa:=Lib.hid hpa
 have HPb:=Lib.hid hpb
 have CF:=fun s W (r:Row W s (.cells #[.string (S a.c.num),.string (S (a.c.den:Int)),.slice pa a.t.length ca,.string (S a.r.num),.string (S (a.r.den:Int)),.string (S b.c.num),.string (S (b.c.den:Int)),.slice pb b.t.length cb,.string (S b.r.num),.string (S (b.r.den:Int))] 58)) (ha:TAt 62 W pa a.t) (hb:TAt 62 W pb b.t) (H:Env W)=>fcontains2 166 (enters_of Tryz.func166 (by kernel_rfl) rfl) s a b pa pb ca cb W r (fun X hX=>arbad oa da pa ca X (UAt.below ha hX) (H.below hX)) (fun X hX=>arbad ob db pb cb X (UAt.below hb hX) (H.below hX))
 have CR:=fun (f0:Value) (f1:Value) bv W (rv:Row W bv (.cells #[.slice pv m cv] 71)) (H:Below w.heap.size w W)=>cov1_bad0 f0 f1 pv m cv hm bv W rv (he.below H) (fun Y hY=>MA Y (H.trans (hY.mono H.size)))
 unfold arErr
 unfold FV
 clear hpa oa da MA hpb ob db
 go_enter Tryz.func32, Tryz.ntmps32
 go_wp2_with fail
 have d0_o:w.heap.size≤w.heap.size+1+1+1:=by have:=hB.size;omega
 have sB:=hB.size
 refine world_cut (fun X=>Below w.heap.size w X∧Row X w.heap.size (.cells #[.string (S a.c.num),.string (S (a.c.den:Int)),.slice pa a.t.length ca,.string (S a.r.num),.string (S (a.r.den:Int))] 58)∧Row X (w.heap.size+1) (.cells #[.string (S b.c.num),.string (S (b.c.den:Int)),.slice pb b.t.length cb,.string (S b.r.num),.string (S (b.r.den:Int))] 58)∧Row X (w.heap.size+1+1) (.cells #[.slice pv m cv] 71)∧Row X (w.heap.size+1+1+1) (.cells #[.string ⟨#[]⟩,.string ⟨#[]⟩] 23)∧Row X (w.heap.size+1+1+1+1) (.cells #[.string (S a.c.num),.string (S (a.c.den:Int)),.slice pa a.t.length ca,.string (S a.r.num),.string (S (a.r.den:Int)),.string (S b.c.num),.string (S (b.c.den:Int)),.slice pb b.t.length cb,.string (S b.r.num),.string (S (b.r.den:Int))] 58)) ⟨BW,RW8,RW8,RW8,RW8,RW8⟩ ?_
 clear hB sB
 rintro V1 ⟨hB,ra,rb,rv,ro,rb4⟩
 obtain ⟨sa,ca0,ca1,ca2,ca3,ca4⟩:=RF5 ra
 obtain ⟨sb,cb0,cb1,cb2,cb3,cb4⟩:=RF5 rb
 obtain ⟨sv,cv0⟩:=RF1 rv
 obtain ⟨so,co0,co1,fo0,fo1⟩:=RFz2 ro
 have Fb4:∀ X,Row X (w.heap.size+1+1+1+1) (.cells #[.string (S a.c.num),.string (S (a.c.den:Int)),.slice pa a.t.length ca,.string (S a.r.num),.string (S (a.r.den:Int)),.string (S b.c.num),.string (S (b.c.den:Int)),.slice pb b.t.length cb,.string (S b.r.num),.string (S (b.r.den:Int))] 58)→(w.heap.size+1+1+1+1<X.heap.size∧X.cell? ⟨w.heap.size+1+1+1+1,0,none⟩=some (.string (S a.c.num))∧X.cell? ⟨w.heap.size+1+1+1+1,1,none⟩=some (.string (S (a.c.den:Int)))∧X.cell? ⟨w.heap.size+1+1+1+1,2,none⟩=some (.slice pa a.t.length ca)∧X.cell? ⟨w.heap.size+1+1+1+1,3,none⟩=some (.string (S a.r.num))∧X.cell? ⟨w.heap.size+1+1+1+1,4,none⟩=some (.string (S (a.r.den:Int)))∧X.cell? ⟨w.heap.size+1+1+1+1,5,none⟩=some (.string (S b.c.num))∧X.cell? ⟨w.heap.size+1+1+1+1,6,none⟩=some (.string (S (b.c.den:Int)))∧X.cell? ⟨w.heap.size+1+1+1+1,7,none⟩=some (.slice pb b.t.length cb)∧X.cell? ⟨w.heap.size+1+1+1+1,8,none⟩=some (.string (S b.r.num))∧X.cell? ⟨w.heap.size+1+1+1+1,9,none⟩=some (.string (S (b.r.den:Int)))):=fun X h=>⟨h.1,Row.cell_at h 0 rfl,Row.cell_at h 1 rfl,Row.cell_at h 2 rfl,Row.cell_at h 3 rfl,Row.cell_at h 4 rfl,Row.cell_at h 5 rfl,Row.cell_at h 6 rfl,Row.cell_at h 7 rfl,Row.cell_at h 8 rfl,Row.cell_at h 9 rfl⟩
 obtain ⟨sb4,cb40,cb41,cb42,cb43,cb44,cb45,cb46,cb47,cb48,cb49⟩:=Fb4 _ rb4
 refine (arcompute_err 97 _ _ _ a0 a1 _ (he.below hB) (enters_of Tryz.func97 (by kernel_rfl) rfl) (fun X h=>CF _ _ (Row.below rb4 h) (UAt.below HPa.out (hB.trans (h.mono hB.size))) (UAt.below HPb.out (hB.trans (h.mono hB.size))) (he.env.below (hB.trans (h.mono hB.size)))) (fun X h=>CR _ _ _ _ (Row.below rv h) (hB.trans (h.mono hB.size)))).mono ?_
 rintro e W2 ⟨rfl,h1⟩
 have stp:=St5 hB h1 ra rb rv ro rb4;clear hB h1 ra sa ca0 ca1 ca2 ca3 ca4 rb sb cb0 cb1 cb2 cb3 cb4 rv sv cv0 ro so co0 co1 fo0 fo1 rb4 sb4 cb40 cb41 cb42 cb43 cb44 cb45 cb46 cb47 cb48 cb49
 obtain ⟨hB,ra,rb,rv,ro,rb4⟩:=stp
 obtain ⟨sa,ca0,ca1,ca2,ca3,ca4⟩:=RF5 ra
 obtain ⟨sb,cb0,cb1,cb2,cb3,cb4⟩:=RF5 rb
 obtain ⟨sv,cv0⟩:=RF1 rv
 obtain ⟨so,co0,co1,fo0,fo1⟩:=RFz2 ro
 obtain ⟨sb4,cb40,cb41,cb42,cb43,cb44,cb45,cb46,cb47,cb48,cb49⟩:=Fb4 _ rb4
 go_wp2_with fail
 clear Fb4
 have sB:=hB.size
 refine post_cut (fun X=>Below w.heap.size w X∧Row X (w.heap.size+1+1+1) (.cells #[.string ⟨#[]⟩,.string ⟨#[]⟩] 23)) ⟨BW,RW8⟩ ?_
 clear ra
 clear sa ca0 ca1 ca2 ca3 ca4
 clear rb
 clear sb cb0 cb1 cb2 cb3 cb4
 clear rv
 clear sv cv0
 clear ro
 clear so co0 co1 fo0 fo1
 clear rb4
 clear sb4 cb40 cb41 cb42 cb43 cb44 cb45 cb46 cb47 cb48 cb49
 clear hB sB
 rintro V3 ⟨hB,ro⟩
 obtain ⟨so,co0,co1,fo0,fo1⟩:=RFz2 ro
 refine bodyPost_ret (v := .tuple #[.agg #[.string ⟨#[]⟩,.string ⟨#[]⟩],.int .i64 80]) ?res rfl ⟨rfl,hB⟩
 case res=>simp [results,Tryz.results32, go_sem,co0,co1]
theorem acov_bad1 {a0 a1:Addr} {a:Frm} (oa:a.Ok) (da:FDig 200 a) (pa:Option Addr) (ca:Nat) {b:Frm} (ob:b.Ok) (db:FDig 200 b) (pb:Option Addr) (cb:Nat) (pv:Option Addr) (m cv:Nat) (hm:m≤128) (w:World) (hpa:TAt 62 w pa a.t) (hpb:TAt 62 w pb b.t) (he:EnvA a0 a1 w) (MA:∀ W,Below w.heap.size w W→Calls Tryz.prog 99 #[.slice pv m cv,.func (.func 100) #[] #[]] W (BoolOk true W)) (MW:∀ W,Below w.heap.size w W→Calls Tryz.prog 101 #[.slice pv m cv,.func (.func 98) #[] #[]] W (BoolOk true W)):Calls Tryz.prog 32 #[FV a pa ca,FV b pb cb,.slice pv m cv] w (arErr w):=by
 have hB:Below w.heap.size w w:=Below.refl _ _
 have HPa:=Lib.hid hpa
 have HPb:=Lib.hid hpb
 have CF:=fun s W (r:Row W s (.cells #[.string (S a.c.num),.string (S (a.c.den:Int)),.slice pa a.t.length ca,.string (S a.r.num),.string (S (a.r.den:Int)),.string (S b.c.num),.string (S (b.c.den:Int)),.slice pb b.t.length cb,.string (S b.r.num),.string (S (b.r.den:Int))] 58)) (ha:TAt 62 W pa a.t) (hb:TAt 62 W pb b.t) (H:Env W)=>fcontains2 166 (enters_of Tryz.func166 (by kernel_rfl) rfl) s a b pa pb ca cb W r (fun X hX=>arbad oa da pa ca X (UAt.below ha hX) (H.below hX)) (fun X hX=>arbad ob db pb cb X (UAt.below hb hX) (H.below hX))
 have CR:=fun (f0:Value) (f1:Value) bv W (rv:Row W bv (.cells #[.slice pv m cv] 71)) (H:Below w.heap.size w W)=>cov1_bad1 f0 f1 pv m cv hm bv W rv (he.below H) (fun Y hY=>MA Y (H.trans (hY.mono H.size))) (fun Y hY=>MW Y (H.trans (hY.mono H.size)))
 unfold arErr
 unfold FV
 clear hpa oa da MA MW hpb ob db
 go_enter Tryz.func32, Tryz.ntmps32
 go_wp2_with fail
 have d0_o:w.heap.size≤w.heap.size+1+1+1:=by have:=hB.size;omega
 have sB:=hB.size
 refine world_cut (fun X=>Below w.heap.size w X∧Row X w.heap.size (.cells #[.string (S a.c.num),.string (S (a.c.den:Int)),.slice pa a.t.length ca,.string (S a.r.num),.string (S (a.r.den:Int))] 58)∧Row X (w.heap.size+1) (.cells #[.string (S b.c.num),.string (S (b.c.den:Int)),.slice pb b.t.length cb,.string (S b.r.num),.string (S (b.r.den:Int))] 58)∧Row X (w.heap.size+1+1) (.cells #[.slice pv m cv] 71)∧Row X (w.heap.size+1+1+1) (.cells #[.string ⟨#[]⟩,.string ⟨#[]⟩] 23)∧Row X (w.heap.size+1+1+1+1) (.cells #[.string (S a.c.num),.string (S (a.c.den:Int)),.slice pa a.t.length ca,.string (S a.r.num),.string (S (a.r.den:Int)),.string (S b.c.num),.string (S (b.c.den:Int)),.slice pb b.t.length cb,.string (S b.r.num),.string (S (b.r.den:Int))] 58)) ⟨BW,RW8,RW8,RW8,RW8,RW8⟩ ?_
 clear hB sB
 rintro V1 ⟨hB,ra,rb,rv,ro,rb4⟩
 obtain ⟨sa,ca0,ca1,ca2,ca3,ca4⟩:=RF5 ra
 obtain ⟨sb,cb0,cb1,cb2,cb3,cb4⟩:=RF5 rb
 obtain ⟨sv,cv0⟩:=RF1 rv
 obtain ⟨so,co0,co1,fo0,fo1⟩:=RFz2 ro
 have Fb4:∀ X,Row X (w.heap.size+1+1+1+1) (.cells #[.string (S a.c.num),.string (S (a.c.den:Int)),.slice pa a.t.length ca,.string (S a.r.num),.string (S (a.r.den:Int)),.string (S b.c.num),.string (S (b.c.den:Int)),.slice pb b.t.length cb,.string (S b.r.num),.string (S (b.r.den:Int))] 58)→(w.heap.size+1+1+1+1<X.heap.size∧X.cell? ⟨w.heap.size+1+1+1+1,0,none⟩=some (.string (S a.c.num))∧X.cell? ⟨w.heap.size+1+1+1+1,1,none⟩=some (.string (S (a.c.den:Int)))∧X.cell? ⟨w.heap.size+1+1+1+1,2,none⟩=some (.slice pa a.t.length ca)∧X.cell? ⟨w.heap.size+1+1+1+1,3,none⟩=some (.string (S a.r.num))∧X.cell? ⟨w.heap.size+1+1+1+1,4,none⟩=some (.string (S (a.r.den:Int)))∧X.cell? ⟨w.heap.size+1+1+1+1,5,none⟩=some (.string (S b.c.num))∧X.cell? ⟨w.heap.size+1+1+1+1,6,none⟩=some (.string (S (b.c.den:Int)))∧X.cell? ⟨w.heap.size+1+1+1+1,7,none⟩=some (.slice pb b.t.length cb)∧X.cell? ⟨w.heap.size+1+1+1+1,8,none⟩=some (.string (S b.r.num))∧X.cell? ⟨w.heap.size+1+1+1+1,9,none⟩=some (.string (S (b.r.den:Int)))):=fun X h=>⟨h.1,Row.cell_at h 0 rfl,Row.cell_at h 1 rfl,Row.cell_at h 2 rfl,Row.cell_at h 3 rfl,Row.cell_at h 4 rfl,Row.cell_at h 5 rfl,Row.cell_at h 6 rfl,Row.cell_at h 7 rfl,Row.cell_at h 8 rfl,Row.cell_at h 9 rfl⟩
 obtain ⟨sb4,cb40,cb41,cb42,cb43,cb44,cb45,cb46,cb47,cb48,cb49⟩:=Fb4 _ rb4
 refine (arcompute_err 97 _ _ _ a0 a1 _ (he.below hB) (enters_of Tryz.func97 (by kernel_rfl) rfl) (fun X h=>CF _ _ (Row.below rb4 h) (UAt.below HPa.out (hB.trans (h.mono hB.size))) (UAt.below HPb.out (hB.trans (h.mono hB.size))) (he.env.below (hB.trans (h.mono hB.size)))) (fun X h=>CR _ _ _ _ (Row.below rv h) (hB.trans (h.mono hB.size)))).mono ?_
 rintro e W2 ⟨rfl,h1⟩
 have stp:=St5 hB h1 ra rb rv ro rb4;clear hB h1 ra sa ca0 ca1 ca2 ca3 ca4 rb sb cb0 cb1 cb2 cb3 cb4 rv sv cv0 ro so co0 co1 fo0 fo1 rb4 sb4 cb40 cb41 cb42 cb43 cb44 cb45 cb46 cb47 cb48 cb49
 obtain ⟨hB,ra,rb,rv,ro,rb4⟩:=stp
 obtain ⟨sa,ca0,ca1,ca2,ca3,ca4⟩:=RF5 ra
 obtain ⟨sb,cb0,cb1,cb2,cb3,cb4⟩:=RF5 rb
 obtain ⟨sv,cv0⟩:=RF1 rv
 obtain ⟨so,co0,co1,fo0,fo1⟩:=RFz2 ro
 obtain ⟨sb4,cb40,cb41,cb42,cb43,cb44,cb45,cb46,cb47,cb48,cb49⟩:=Fb4 _ rb4
 go_wp2_with fail
 clear Fb4
 have sB:=hB.size
 refine post_cut (fun X=>Below w.heap.size w X∧Row X (w.heap.size+1+1+1) (.cells #[.string ⟨#[]⟩,.string ⟨#[]⟩] 23)) ⟨BW,RW8⟩ ?_
 clear ra
 clear sa ca0 ca1 ca2 ca3 ca4
 clear rb
 clear sb cb0 cb1 cb2 cb3 cb4
 clear rv
 clear sv cv0
 clear ro
 clear so co0 co1 fo0 fo1
 clear rb4
 clear sb4 cb40 cb41 cb42 cb43 cb44 cb45 cb46 cb47 cb48 cb49
 clear hB sB
 rintro V3 ⟨hB,ro⟩
 obtain ⟨so,co0,co1,fo0,fo1⟩:=RFz2 ro
 refine bodyPost_ret (v := .tuple #[.agg #[.string ⟨#[]⟩,.string ⟨#[]⟩],.int .i64 80]) ?res rfl ⟨rfl,hB⟩
 case res=>simp [results,Tryz.results32, go_sem,co0,co1]
end Go.Proofs.YtnokpldomlmamaaGreatDoor
