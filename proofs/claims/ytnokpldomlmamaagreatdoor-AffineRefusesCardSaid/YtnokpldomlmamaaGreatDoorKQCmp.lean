/-
 Package affine: check, and compute with its deferred closure: a result is handed back; a panic with errFails becomes ErrAffine. Affine, plain: fractions on a grid; when nothing that is reckoned is too large. The exported functions, over strings: FromInt. Package rational: the comparison, by whole parts, and then upside down.
-/
import Derived.BigRegion
import Derived.ScopeJumps
import Derived.WalkMore
import Derived.Test.YtnokpldomlmamaaGreatDoorKARow
import Derived.Test.YtnokpldomlmamaaGreatDoorKDPlain2
import Derived.Test.YtnokpldomlmamaaGreatDoorKECompute
import Derived.Test.YtnokpldomlmamaaGreatDoorKLaw1
import Derived.Test.YtnokpldomlmamaaGreatDoorKStr3
set_option maxRecDepth 100000
set_option maxHeartbeats 2000000
namespace Go.Proofs.YtnokpldomlmamaaGreatDoor
open Go Go.RowKit Go.Lib Go.Shelf
/-- What the listed variables hold: as EnvE, and errFails of package affine. -/
structure EnvA (a0 a:Addr) (w:World):Prop where
 enve:EnvE a0 w
 failsA:w.cell? ⟨0, 0,none⟩=some (.iface 316 (.pointer (some a)))
theorem EnvA.env {a0 a:Addr} {w:World} (h:EnvA a0 a w):Env w:=h.enve.env
theorem EnvA.below {a0 a:Addr} {w w':World} (h:EnvA a0 a w) (hb:Below w.heap.size w w'):EnvA a0 a w':=⟨h.enve.below hb,(hb.cell (World.block_lt_of_cell? _ _ h.failsA)).trans h.failsA⟩
/-- A form's value in the program. -/
def FV (f:Frm) (p:Option Addr) (c:Nat):Value := .agg #[.string (S f.c.num),.string (S (f.c.den:Int)),.slice p f.t.length c,.string (S f.r.num),.string (S (f.r.den:Int))]
abbrev TermT:TypeId := 62
theorem acheck_true (w:World):Calls Tryz.prog 91 #[.bool true] w (UnitOk w):=by
 go_enter Tryz.func91, Tryz.ntmps91
 go_wp2
 go_end0
 exact ⟨rfl,Below.refl _ _⟩
theorem tat_set1 {T U:TypeId} {W:World} {p:Option Addr} {l:List Trm} {b:Nat} {v0 u0:Value} (h:TAt T W p l) (r:Row W b (.cells #[v0] U)) (hne:U≠T):TAt T (W.setCell ⟨b,0,none⟩ u0) p l:=tat_set h r hne 0 u0
theorem tat_set5 {T U:TypeId} {W:World} {p:Option Addr} {l:List Trm} {b:Nat} {v0 v1 v2 v3 v4 u0 u1 u2 u3 u4:Value} (h:TAt T W p l) (r:Row W b (.cells #[v0,v1,v2,v3,v4] U)) (hne:U≠T) :
  TAt T (((((W.setCell ⟨b,0,none⟩ u0).setCell ⟨b,1,none⟩ u1).setCell ⟨b,2,none⟩ u2).setCell ⟨b,3,none⟩ u3).setCell ⟨b,4,none⟩ u4) p l:=by
 have r0:=r.set_same (i:=0) (v:=u0) rfl
 have r1:=r0.set_same (i:=1) (v:=u1) rfl
 have r2:=r1.set_same (i:=2) (v:=u2) rfl
 have r3:=r2.set_same (i:=3) (v:=u3) rfl
 exact tat_set (tat_set (tat_set (tat_set (tat_set h r hne 0 u0) r0 hne 1 u1) r1 hne 2 u2) r2 hne 3 u3) r3 hne 4 u4
theorem Row.cells5 {W:World} {b:Nat} {v0 v1 v2 v3 v4:Value} {t:TypeId} (h:Row W b (.cells #[v0,v1,v2,v3,v4] t)) :
  b<W.heap.size∧W.cell? ⟨b,0,none⟩=some v0∧W.cell? ⟨b,1,none⟩=some v1∧W.cell? ⟨b,2,none⟩=some v2∧W.cell? ⟨b,3,none⟩=some v3∧W.cell? ⟨b,4,none⟩=some v4
  ∧ W.frozen? ⟨b,0,none⟩=false∧W.frozen? ⟨b,1,none⟩=false∧W.frozen? ⟨b,2,none⟩=false∧W.frozen? ⟨b,3,none⟩=false∧W.frozen? ⟨b,4,none⟩=false :=
 ⟨h.1,Row.cell_lit h 0 rfl,Row.cell_lit h 1 rfl,Row.cell_lit h 2 rfl,Row.cell_lit h 3 rfl,Row.cell_lit h 4 rfl,frozen_of_row _ _ 0 _ _ h.2,frozen_of_row _ _ 1 _ _ h.2,frozen_of_row _ _ 2 _ _ h.2,frozen_of_row _ _ 3 _ _ h.2,frozen_of_row _ _ 4 _ _ h.2⟩
theorem form_ne:(58 : TypeId)≠TermT:=by decide
theorem errno_ne:(40 : TypeId)≠TermT:=by decide
/-! compute[yardstick/api.Interval] -/
def avIs (Pr:Iv→Prop) (w:World) (e:Ending) (w':World):Prop:=∃ a,Pr a∧e = .returned (I a)∧Below w.heap.size w w'
def avOk (Pr:Iv→Prop) (w:World) (e:Ending) (w':World):Prop:=∃ a,Pr a∧e = .returned (.tuple #[I a,.int .i64 0])∧Below w.heap.size w w'
theorem avidle (bp bq:Nat) (w:World) :
  CallsD Tryz.prog 159 #[.pointer (some ⟨bp,0,none⟩),.pointer (some ⟨bq,0,none⟩)] .returning w fun e u' w'=>e = .returned (.tuple #[])∧u' = .returning∧w'=w:=by
 have hta:=assert_nil
 refine callsD_of_wpS Tryz.func159 rfl fun c₀ cs hu => ?_
 have e:(#[.pointer (some ⟨bp,0,none⟩),.pointer (some ⟨bq,0,none⟩)] ++ Array.replicate (Tryz.f159.ntmps - (#[.pointer (some ⟨bp,0,none⟩),.pointer (some ⟨bq,0,none⟩)]:Array Value).size) undef:Array Value)=#[.pointer (some ⟨bp,0,none⟩),.pointer (some ⟨bq,0,none⟩),undef,undef,undef,undef,undef,undef,undef,undef,undef,undef,undef,undef,undef,undef,undef]:=by kernel_rfl
 rw [e]
 apply wpS_seq
 apply wpS_region
 simp [wpOpsS,go_sem,recoverD,hu,Exit.thenS,hta]
 refine wpS_of_wp ?_
 go_hide hQ
 go_wp2
 subst hQ
 cases c₀
 simp_all [bodyPostS,results,Tryz.results159]
/-- compute, where the function that it calls hands back a result. -/
theorem avcompute_ok (F:FuncId) (caps:Array Value) (s n:Nat) (Pr:Iv→Prop) (w:World) (eg:∀ args w,(callFunc F args).run Tryz.prog w = .ok (.enter F args) w)
  (hv:∀ W,Below w.heap.size w W→Calls Tryz.prog 154 #[.slice (some ⟨s,0,none⟩) n n,.func (.func 160) #[] #[]] W (BoolOk false W))
  (h:∀ W,Below w.heap.size w W→Calls Tryz.prog F caps W (avIs Pr W)) :
  Calls Tryz.prog 85 #[.func (.func F) #[] caps,.slice (some ⟨s,0,none⟩) n n] w (avOk Pr w):=by
 have hmf:∀ (fn:Fn) (first cap:Array Value) (w:World),(Instr.makeFunc fn first cap).run Tryz.prog w = .ok (.func fn first cap) w:=fun _ _ _ _=>rfl
 have hB:Below w.heap.size w w:=Below.refl _ _
 go_enter_defers Tryz.func85, Tryz.ntmps85
 go_wp2_with fail
 refine world_cut (fun X=>Below w.heap.size w X∧Row X w.heap.size (.cells #[.string ⟨#[]⟩,.string ⟨#[]⟩,.string ⟨#[]⟩,.string ⟨#[]⟩] 30)∧Row X (w.heap.size+1) (.cells #[.int .i64 0] 40)) ⟨(by repeat (first | (with_reducible exact hB) | (with_reducible refine Below.drew ?_) | (with_reducible refine Below.alloc ?_ (by first | omega | (simp;done) | (simp;omega)) _) | (with_reducible refine Below.setCell ?_ (by first | omega | (simp;done) | (simp;omega)) _))),(by repeat (first | (with_reducible exact row_new' (by first | omega | (simp;done) | (simp;omega))) | (with_reducible refine Row.drew ?_) | (with_reducible refine Row.alloc ?_ _))),(by repeat (first | (with_reducible exact row_new' (by first | omega | (simp;done) | (simp;omega))) | (with_reducible refine Row.drew ?_) | (with_reducible refine Row.alloc ?_ _)))⟩ ?_
 clear hB
 rintro W1 ⟨hB,rp,rq⟩
 refine (hv _ hB).mono ?_
 rintro e W2 ⟨rfl,h1⟩
 replace hB:=hB.trans (h1.mono hB.size)
 replace rp:=Row.below rp h1
 replace rq:=Row.below rq h1
 clear h1
 go_wp2_with fail
 refine (acheck_true _).mono ?_
 rintro e W3 ⟨rfl,h1⟩
 replace hB:=hB.trans (h1.mono hB.size)
 replace rp:=Row.below rp h1
 replace rq:=Row.below rq h1
 clear h1
 have h':=h _ hB
 clear h hv
 go_wp2_with (go_at_fn F;refine h'.mono ?_;rintro e W4 ⟨a,pa,rfl,h1⟩;replace hB:=hB.trans (h1.mono hB.size);replace rp:=Row.below rp h1;replace rq:=Row.below rq h1;have sp:=Row.cells4 rp;obtain ⟨sq,cq,fq⟩:=Row.cells1 rq;unfold I)
 refine leaves_cons (f := 159) (args:=#[.pointer (some ⟨w.heap.size,0,none⟩),.pointer (some ⟨w.heap.size+1,0,none⟩)]) (by simp) (by simp [go_sem]) ?_
 refine (avidle _ _ _).mono ?_
 rintro e u' w'' ⟨rfl,rfl,hw⟩
 have sB:=hB.size
 obtain ⟨hB',rp',rq'⟩:Below w.heap.size w w''∧Row w'' w.heap.size (.cells #[.string (S a.lo.num),.string (S (a.lo.den:Int)),.string (S a.hi.num),.string (S (a.hi.den:Int))] 30)∧Row w'' (w.heap.size+1) (.cells #[.int .i64 0] 40):=by
  rw [hw]
  exact ⟨(by repeat (first | (with_reducible exact hB) | (with_reducible refine Below.drew ?_) | (with_reducible refine Below.alloc ?_ (by first | omega | (simp;done) | (simp;omega)) _) | (with_reducible refine Below.setCell ?_ (by first | omega | (simp;done) | (simp;omega)) _))),(by repeat (first | (with_reducible exact rp) | (with_reducible exact row_new' (by first | omega | (simp;done) | (simp;omega))) | (with_reducible refine Row.drew ?_) | (with_reducible refine Row.alloc ?_ _) | (with_reducible apply Row.set5) | (with_reducible apply Row.set4) | (with_reducible apply Row.set4a) | (with_reducible apply Row.set4b) | (with_reducible apply Row.set2) | (with_reducible apply Row.set1) | (with_reducible refine Row.set_other ?_ _ (by first | omega | (simp;done) | (simp;omega))))),(by repeat (first | (with_reducible exact rq) | (with_reducible exact row_new' (by first | omega | (simp;done) | (simp;omega))) | (with_reducible refine Row.drew ?_) | (with_reducible refine Row.alloc ?_ _) | (with_reducible apply Row.set5) | (with_reducible apply Row.set4) | (with_reducible apply Row.set4a) | (with_reducible apply Row.set4b) | (with_reducible apply Row.set2) | (with_reducible apply Row.set1) | (with_reducible refine Row.set_other ?_ _ (by first | omega | (simp;done) | (simp;omega)))))⟩
 clear hw
 obtain ⟨tp,dp0,dp1,dp2,dp3,_gp0,_gp1,_gp2,_gp3⟩:=Row.cells4 rp'
 obtain ⟨tq,dq,_gq⟩:=Row.cells1 rq'
 simp only [Leaves,settle]
 exact ⟨.tuple #[.agg #[.string (S a.lo.num),.string (S (a.lo.den:Int)),.string (S a.hi.num),.string (S (a.hi.den:Int))],.int .i64 0],by simp [results,Tryz.results85, go_sem,dp0,dp1,dp2,dp3,dq],a,pa,rfl,hB'⟩
/-! compute[yardstick/api.Form] -/
def afIs (Pr:Frm→Prop) (w:World) (e:Ending) (w':World):Prop:=∃ a p c,Pr a∧TAt TermT w' p a.t∧e = .returned (FV a p c)∧Below w.heap.size w w'
def afOk (Pr:Frm→Prop) (w:World) (e:Ending) (w':World):Prop:=∃ a p c,Pr a∧TAt TermT w' p a.t∧e = .returned (.tuple #[FV a p c,.int .i64 0])∧Below w.heap.size w w'
theorem afidle (bp bq:Nat) (w:World) :
  CallsD Tryz.prog 152 #[.pointer (some ⟨bp,0,none⟩),.pointer (some ⟨bq,0,none⟩)] .returning w fun e u' w'=>e = .returned (.tuple #[])∧u' = .returning∧w'=w:=by
 have hta:=assert_nil
 refine callsD_of_wpS Tryz.func152 rfl fun c₀ cs hu => ?_
 have e:(#[.pointer (some ⟨bp,0,none⟩),.pointer (some ⟨bq,0,none⟩)] ++ Array.replicate (Tryz.f152.ntmps - (#[.pointer (some ⟨bp,0,none⟩),.pointer (some ⟨bq,0,none⟩)]:Array Value).size) undef:Array Value)=#[.pointer (some ⟨bp,0,none⟩),.pointer (some ⟨bq,0,none⟩),undef,undef,undef,undef,undef,undef,undef,undef,undef,undef,undef,undef,undef,undef,undef]:=by kernel_rfl
 rw [e]
 apply wpS_seq
 apply wpS_region
 simp [wpOpsS,go_sem,recoverD,hu,Exit.thenS,hta]
 refine wpS_of_wp ?_
 go_hide hQ
 go_wp2
 subst hQ
 cases c₀
 simp_all [bodyPostS,results,Tryz.results152]
/-- compute, where the function that it calls hands back a result. -/
theorem afcompute_ok (F:FuncId) (caps:Array Value) (s n:Nat) (Pr:Frm→Prop) (w:World) (eg:∀ args w,(callFunc F args).run Tryz.prog w = .ok (.enter F args) w)
  (hv:∀ W,Below w.heap.size w W→Calls Tryz.prog 154 #[.slice (some ⟨s,0,none⟩) n n,.func (.func 155) #[] #[]] W (BoolOk false W))
  (h:∀ W,Below w.heap.size w W→Calls Tryz.prog F caps W (afIs Pr W)) :
  Calls Tryz.prog 79 #[.func (.func F) #[] caps,.slice (some ⟨s,0,none⟩) n n] w (afOk Pr w):=by
 have hmf:∀ (fn:Fn) (first cap:Array Value) (w:World),(Instr.makeFunc fn first cap).run Tryz.prog w = .ok (.func fn first cap) w:=fun _ _ _ _=>rfl
 have hB:Below w.heap.size w w:=Below.refl _ _
 go_enter_defers Tryz.func79, Tryz.ntmps79
 go_wp2_with fail
 refine world_cut (fun X=>Below w.heap.size w X∧Row X w.heap.size (.cells #[.string ⟨#[]⟩,.string ⟨#[]⟩,.slice none 0 0,.string ⟨#[]⟩,.string ⟨#[]⟩] 58)∧Row X (w.heap.size+1) (.cells #[.int .i64 0] 40)) ⟨(by repeat (first | (with_reducible exact hB) | (with_reducible refine Below.drew ?_) | (with_reducible refine Below.alloc ?_ (by first | omega | (simp;done) | (simp;omega)) _) | (with_reducible refine Below.setCell ?_ (by first | omega | (simp;done) | (simp;omega)) _))),(by repeat (first | (with_reducible exact row_new' (by first | omega | (simp;done) | (simp;omega))) | (with_reducible refine Row.drew ?_) | (with_reducible refine Row.alloc ?_ _))),(by repeat (first | (with_reducible exact row_new' (by first | omega | (simp;done) | (simp;omega))) | (with_reducible refine Row.drew ?_) | (with_reducible refine Row.alloc ?_ _)))⟩ ?_
 clear hB
 rintro W1 ⟨hB,rp,rq⟩
 refine (hv _ hB).mono ?_
 rintro e W2 ⟨rfl,h1⟩
 replace hB:=hB.trans (h1.mono hB.size)
 replace rp:=Row.below rp h1
 replace rq:=Row.below rq h1
 clear h1
 go_wp2_with fail
 refine (acheck_true _).mono ?_
 rintro e W3 ⟨rfl,h1⟩
 replace hB:=hB.trans (h1.mono hB.size)
 replace rp:=Row.below rp h1
 replace rq:=Row.below rq h1
 clear h1
 have h':=h _ hB
 clear h hv
 go_wp2_with (go_at_fn F;refine h'.mono ?_;rintro e W4 ⟨a,p,c,pa,hT,rfl,h1⟩;replace hB:=hB.trans (h1.mono hB.size);replace rp:=Row.below rp h1;replace rq:=Row.below rq h1;have sp:=Row.cells5 rp;obtain ⟨sq,cq,fq⟩:=Row.cells1 rq;unfold FV)
 refine leaves_cons (f := 152) (args:=#[.pointer (some ⟨w.heap.size,0,none⟩),.pointer (some ⟨w.heap.size+1,0,none⟩)]) (by simp) (by simp [go_sem]) ?_
 refine (afidle _ _ _).mono ?_
 rintro e u' w'' ⟨rfl,rfl,hw⟩
 have sB:=hB.size
 obtain ⟨hB',rp',rq',hT1⟩:Below w.heap.size w w''∧Row w'' w.heap.size (.cells #[.string (S a.c.num),.string (S (a.c.den:Int)),.slice p a.t.length c,.string (S a.r.num),.string (S (a.r.den:Int))] 58)∧Row w'' (w.heap.size+1) (.cells #[.int .i64 0] 40)∧TAt TermT w'' p a.t:=by
  rw [hw]
  exact ⟨(by repeat (first | (with_reducible exact hB) | (with_reducible refine Below.drew ?_) | (with_reducible refine Below.alloc ?_ (by first | omega | (simp;done) | (simp;omega)) _) | (with_reducible refine Below.setCell ?_ (by first | omega | (simp;done) | (simp;omega)) _))),(by repeat (first | (with_reducible exact rp) | (with_reducible exact row_new' (by first | omega | (simp;done) | (simp;omega))) | (with_reducible refine Row.drew ?_) | (with_reducible refine Row.alloc ?_ _) | (with_reducible apply Row.set5) | (with_reducible apply Row.set4) | (with_reducible apply Row.set4a) | (with_reducible apply Row.set4b) | (with_reducible apply Row.set2) | (with_reducible apply Row.set1) | (with_reducible refine Row.set_other ?_ _ (by first | omega | (simp;done) | (simp;omega))))),(by repeat (first | (with_reducible exact rq) | (with_reducible exact row_new' (by first | omega | (simp;done) | (simp;omega))) | (with_reducible refine Row.drew ?_) | (with_reducible refine Row.alloc ?_ _) | (with_reducible apply Row.set5) | (with_reducible apply Row.set4) | (with_reducible apply Row.set4a) | (with_reducible apply Row.set4b) | (with_reducible apply Row.set2) | (with_reducible apply Row.set1) | (with_reducible refine Row.set_other ?_ _ (by first | omega | (simp;done) | (simp;omega))))),tat_set1 (tat_set5 hT rp form_ne) (U := 40) (v0 := .int .i64 0) (by repeat (first | (with_reducible exact rq) | (with_reducible exact row_new' (by first | omega | (simp;done) | (simp;omega))) | (with_reducible refine Row.drew ?_) | (with_reducible refine Row.alloc ?_ _) | (with_reducible apply Row.set5) | (with_reducible apply Row.set4) | (with_reducible apply Row.set4a) | (with_reducible apply Row.set4b) | (with_reducible apply Row.set2) | (with_reducible apply Row.set1) | (with_reducible refine Row.set_other ?_ _ (by first | omega | (simp;done) | (simp;omega))))) errno_ne⟩
 clear hw
 obtain ⟨tp,dp0,dp1,dp2,dp3,dp4,_gp0,_gp1,_gp2,_gp3,_gp4⟩:=Row.cells5 rp'
 obtain ⟨tq,dq,_gq⟩:=Row.cells1 rq'
 simp only [Leaves,settle]
 exact ⟨.tuple #[.agg #[.string (S a.c.num),.string (S (a.c.den:Int)),.slice p a.t.length c,.string (S a.r.num),.string (S (a.r.den:Int))],.int .i64 0],by simp [results,Tryz.results79, go_sem,dp0,dp1,dp2,dp3,dp4,dq],a,p,c,pa,hT1,rfl,hB'⟩
/-! compute[yardstick/api.Ratio] -/
def arIs (Pr:Rat→Prop) (w:World) (e:Ending) (w':World):Prop:=∃ a,Pr a∧e = .returned (Q a)∧Below w.heap.size w w'
def arOk (Pr:Rat→Prop) (w:World) (e:Ending) (w':World):Prop:=∃ a,Pr a∧e = .returned (.tuple #[Q a,.int .i64 0])∧Below w.heap.size w w'
theorem aridle (bp bq:Nat) (w:World) :
  CallsD Tryz.prog 165 #[.pointer (some ⟨bp,0,none⟩),.pointer (some ⟨bq,0,none⟩)] .returning w fun e u' w'=>e = .returned (.tuple #[])∧u' = .returning∧w'=w:=by
 have hta:=assert_nil
 refine callsD_of_wpS Tryz.func165 rfl fun c₀ cs hu => ?_
 have e:(#[.pointer (some ⟨bp,0,none⟩),.pointer (some ⟨bq,0,none⟩)] ++ Array.replicate (Tryz.f165.ntmps - (#[.pointer (some ⟨bp,0,none⟩),.pointer (some ⟨bq,0,none⟩)]:Array Value).size) undef:Array Value)=#[.pointer (some ⟨bp,0,none⟩),.pointer (some ⟨bq,0,none⟩),undef,undef,undef,undef,undef,undef,undef,undef,undef,undef,undef,undef,undef,undef,undef]:=by kernel_rfl
 rw [e]
 apply wpS_seq
 apply wpS_region
 simp [wpOpsS,go_sem,recoverD,hu,Exit.thenS,hta]
 refine wpS_of_wp ?_
 go_hide hQ
 go_wp2
 subst hQ
 cases c₀
 simp_all [bodyPostS,results,Tryz.results165]
/-- compute, where the function that it calls hands back a result. -/
theorem arcompute_ok (F:FuncId) (caps:Array Value) (s n:Nat) (Pr:Rat→Prop) (w:World) (eg:∀ args w,(callFunc F args).run Tryz.prog w = .ok (.enter F args) w)
  (hv:∀ W,Below w.heap.size w W→Calls Tryz.prog 154 #[.slice (some ⟨s,0,none⟩) n n,.func (.func 166) #[] #[]] W (BoolOk false W))
  (h:∀ W,Below w.heap.size w W→Calls Tryz.prog F caps W (arIs Pr W)) :
  Calls Tryz.prog 96 #[.func (.func F) #[] caps,.slice (some ⟨s,0,none⟩) n n] w (arOk Pr w):=by
 have hmf:∀ (fn:Fn) (first cap:Array Value) (w:World),(Instr.makeFunc fn first cap).run Tryz.prog w = .ok (.func fn first cap) w:=fun _ _ _ _=>rfl
 have hB:Below w.heap.size w w:=Below.refl _ _
 go_enter_defers Tryz.func96, Tryz.ntmps96
 go_wp2_with fail
 refine world_cut (fun X=>Below w.heap.size w X∧Row X w.heap.size (.cells #[.string ⟨#[]⟩,.string ⟨#[]⟩] 23)∧Row X (w.heap.size+1) (.cells #[.int .i64 0] 40)) ⟨(by repeat (first | (with_reducible exact hB) | (with_reducible refine Below.drew ?_) | (with_reducible refine Below.alloc ?_ (by first | omega | (simp;done) | (simp;omega)) _) | (with_reducible refine Below.setCell ?_ (by first | omega | (simp;done) | (simp;omega)) _))),(by repeat (first | (with_reducible exact row_new' (by first | omega | (simp;done) | (simp;omega))) | (with_reducible refine Row.drew ?_) | (with_reducible refine Row.alloc ?_ _))),(by repeat (first | (with_reducible exact row_new' (by first | omega | (simp;done) | (simp;omega))) | (with_reducible refine Row.drew ?_) | (with_reducible refine Row.alloc ?_ _)))⟩ ?_
 clear hB
 rintro W1 ⟨hB,rp,rq⟩
 refine (hv _ hB).mono ?_
 rintro e W2 ⟨rfl,h1⟩
 replace hB:=hB.trans (h1.mono hB.size)
 replace rp:=Row.below rp h1
 replace rq:=Row.below rq h1
 clear h1
 go_wp2_with fail
 refine (acheck_true _).mono ?_
 rintro e W3 ⟨rfl,h1⟩
 replace hB:=hB.trans (h1.mono hB.size)
 replace rp:=Row.below rp h1
 replace rq:=Row.below rq h1
 clear h1
 have h':=h _ hB
 clear h hv
 go_wp2_with (go_at_fn F;refine h'.mono ?_;rintro e W4 ⟨a,pa,rfl,h1⟩;replace hB:=hB.trans (h1.mono hB.size);replace rp:=Row.below rp h1;replace rq:=Row.below rq h1;have sp:=Row.cells2 rp;obtain ⟨sq,cq,fq⟩:=Row.cells1 rq;unfold Q)
 refine leaves_cons (f := 165) (args:=#[.pointer (some ⟨w.heap.size,0,none⟩),.pointer (some ⟨w.heap.size+1,0,none⟩)]) (by simp) (by simp [go_sem]) ?_
 refine (aridle _ _ _).mono ?_
 rintro e u' w'' ⟨rfl,rfl,hw⟩
 have sB:=hB.size
 obtain ⟨hB',rp',rq'⟩:Below w.heap.size w w''∧Row w'' w.heap.size (.cells #[.string (S a.num),.string (S (a.den:Int))] 23)∧Row w'' (w.heap.size+1) (.cells #[.int .i64 0] 40):=by
  rw [hw]
  exact ⟨(by repeat (first | (with_reducible exact hB) | (with_reducible refine Below.drew ?_) | (with_reducible refine Below.alloc ?_ (by first | omega | (simp;done) | (simp;omega)) _) | (with_reducible refine Below.setCell ?_ (by first | omega | (simp;done) | (simp;omega)) _))),(by repeat (first | (with_reducible exact rp) | (with_reducible exact row_new' (by first | omega | (simp;done) | (simp;omega))) | (with_reducible refine Row.drew ?_) | (with_reducible refine Row.alloc ?_ _) | (with_reducible apply Row.set5) | (with_reducible apply Row.set4) | (with_reducible apply Row.set4a) | (with_reducible apply Row.set4b) | (with_reducible apply Row.set2) | (with_reducible apply Row.set1) | (with_reducible refine Row.set_other ?_ _ (by first | omega | (simp;done) | (simp;omega))))),(by repeat (first | (with_reducible exact rq) | (with_reducible exact row_new' (by first | omega | (simp;done) | (simp;omega))) | (with_reducible refine Row.drew ?_) | (with_reducible refine Row.alloc ?_ _) | (with_reducible apply Row.set5) | (with_reducible apply Row.set4) | (with_reducible apply Row.set4a) | (with_reducible apply Row.set4b) | (with_reducible apply Row.set2) | (with_reducible apply Row.set1) | (with_reducible refine Row.set_other ?_ _ (by first | omega | (simp;done) | (simp;omega)))))⟩
 clear hw
 obtain ⟨tp,dp0,dp1,_gp0,_gp1⟩:=Row.cells2 rp'
 obtain ⟨tq,dq,_gq⟩:=Row.cells1 rq'
 simp only [Leaves,settle]
 exact ⟨.tuple #[.agg #[.string (S a.num),.string (S (a.den:Int))],.int .i64 0],by simp [results,Tryz.results96, go_sem,dp0,dp1,dq],a,pa,rfl,hB'⟩
end Go.Proofs.YtnokpldomlmamaaGreatDoor
namespace Go.Proofs.YtnokpldomlmamaaGreatDoor
open Go Go.Lib
/-- A fraction with the denominator d, and with a numerator of at most m. -/
def Gr (d m:Nat) (q:Rat):Prop:=∃ z:Int,q * ((d:Int):Rat)=(z:Rat)∧z.natAbs≤m
theorem Gr.mono {d m n:Nat} {q:Rat} (h:Gr d m q) (hmn:m≤n):Gr d n q:=by
 obtain ⟨z,e,b⟩:=h
 exact ⟨z,e,by omega⟩
theorem Gr.zero (d:Nat):Gr d 0 0:=⟨0,by grind,by decide⟩
theorem Gr.add {d m n:Nat} {a b:Rat} (ha:Gr d m a) (hb:Gr d n b):Gr d (m+n) (a+b):=by
 obtain ⟨x,ex,bx⟩:=ha
 obtain ⟨y,ey,b2⟩:=hb
 exact ⟨x+y,by rw [Rat.add_mul,ex,ey];push_cast;rfl,by omega⟩
theorem Gr.sub {d m n:Nat} {a b:Rat} (ha:Gr d m a) (hb:Gr d n b):Gr d (m+n) (a - b):=by
 obtain ⟨x,ex,bx⟩:=ha
 obtain ⟨y,ey,b2⟩:=hb
 exact ⟨x - y,by rw [show (a - b) * ((d:Int):Rat)=a * ((d:Int):Rat) - b * ((d:Int):Rat) by grind,ex,ey];push_cast;rfl,by omega⟩
theorem Gr.mul {d e m n:Nat} {a b:Rat} (ha:Gr d m a) (hb:Gr e n b):Gr (d * e) (m * n) (a * b):=by
 obtain ⟨x,ex,bx⟩:=ha
 obtain ⟨y,ey,b2⟩:=hb
 refine ⟨x * y,?_,?_⟩
 ·rw [show ((((d * e:Nat):Int)):Rat)=((d:Int):Rat) * ((e:Int):Rat) by push_cast;rfl,show a * b * (((d:Int):Rat) * ((e:Int):Rat))=(a * ((d:Int):Rat)) * (b * ((e:Int):Rat)) by grind,ex,ey]
  push_cast;rfl
 ·rw [Int.natAbs_mul];exact Nat.mul_le_mul bx b2
theorem Gr.abs {d m:Nat} {a:Rat} (ha:Gr d m a):Gr d m (absQ a):=by
 unfold absQ
 split
 ·have:=(Gr.zero d).sub ha
  exact this.mono (by omega)
 ·exact ha
theorem Gr.fine {d m:Nat} {a:Rat} (ha:Gr d m a) (k:Nat):Gr (d * k) (m * k) a:=by
 have h:Gr k k 1:=⟨(k:Int),by grind,by omega⟩
 have:=ha.mul h
 rwa [show a * 1=a by grind] at this
theorem Gr.ofInt {n:Int} {d m:Nat} (hd:0<d) (hn:n.natAbs≤m):Gr d m (Rat.divInt n d):=⟨n,divInt_mul (by omega),hn⟩
theorem Gr.eq {d m:Nat} {q:Rat} (h:Gr d m q) (hd:0<d):∃ z:Int,q=Rat.divInt z d∧z.natAbs≤m:=by
 obtain ⟨z,e,b⟩:=h
 refine ⟨z,?_,b⟩
 have h1:=divInt_mul (n:=z) (T:=(d:Int)) (by omega)
 have hd':((d:Int):Rat)≠0:=by
  intro h0
  have:(d:Int)=0:=by exact_mod_cast h0
  omega
 have:(q - Rat.divInt z d) * ((d:Int):Rat)=0:=by grind
 rcases Rat.mul_eq_zero.1 this with h | h
 ·grind
 ·exact absurd h hd'
theorem Gr.dig {d m k:Nat} {q:Rat} (h:Gr d m q) (hd:0<d) (h1:d<10 ^ k) (h2:m<10 ^ k):QDig k q:=by
 obtain ⟨z,rfl,b⟩:=h.eq hd
 exact QDig.ofInt (by omega) (by unfold Dig;omega) (by unfold Dig;omega)
/-- A form on a grid. -/
structure FGr (d m:Nat) (f:Frm):Prop where
 c:Gr d m f.c
 t:∀ p,p ∈ f.t→Gr d m p.c
 r:Gr d m f.r
theorem FGr.mono {d m n:Nat} {f:Frm} (h:FGr d m f) (hmn:m≤n):FGr d n f:=⟨h.c.mono hmn,fun p hp=>(h.t p hp).mono hmn,h.r.mono hmn⟩
theorem FGr.dig {d m k:Nat} {f:Frm} (h:FGr d m f) (hd:0<d) (h1:d<10 ^ k) (h2:m<10 ^ k):FDig k f:=⟨h.c.dig hd h1 h2,fun p hp=>(h.t p hp).dig hd h1 h2,h.r.dig hd h1 h2⟩
theorem Gr.cast {d e m n:Nat} {q:Rat} (h:Gr d m q) (hd:d=e) (hm:m≤n):Gr e n q:=hd ▸ h.mono hm
theorem radTo_gr {d m:Nat} {l:List Trm} (h:∀ p,p ∈ l→Gr d m p.c):∀ k,k≤l.length→Gr d (k * m) (radTo l k)
 | 0,_=>by rw [Nat.zero_mul];exact Gr.zero d
 | k+1,hk=>by
  have h1:=radTo_gr h k (by omega)
  have h2:=(h _ (trD_mem (show k<l.length by omega))).abs
  exact (h1.add h2).cast rfl (by rw [Nat.succ_mul];omega)
theorem rad_gr {d m n:Nat} {f:Frm} (h:FGr d m f) (hn:f.t.length+1≤n):Gr d (n * m) (rad f) :=
 ((radTo_gr h.t _ (Nat.le_refl _)).add h.r).mono (by
  have:=Nat.mul_le_mul_right m hn
  rw [Nat.succ_mul] at this;exact this)
/-! When nothing is too large. -/
theorem AF.dig {a b:Rat} (h:AF a b):QDig 200 (a+b):=by rw [← add_parts];exact reduced_dig (Int.mul_pos (den_pos a) (den_pos b)) h.n h.d
theorem SF.dig {a b:Rat} (h:SF a b):QDig 200 (a - b):=by rw [← sub_parts];exact reduced_dig (Int.mul_pos (den_pos a) (den_pos b)) h.n h.d
theorem MF.dig {a b:Rat} (h:MF a b):QDig 200 (a * b):=by rw [← mul_parts];exact reduced_dig (Int.mul_pos (den_pos a) (den_pos b)) h.n h.d
theorem DF.dig {a b:Rat} (h:DF a b):QDig 200 (a / b):=by
 rw [← div_parts]
 rcases Int.lt_trichotomy b.num 0 with hb | hb | hb
 ·rw [← divInt_neg]
  refine reduced_dig ?_ (by unfold Dig;rw [Int.natAbs_neg];exact h.n) (by unfold Dig;rw [Int.natAbs_neg];exact h.d)
  have:=Int.mul_pos (den_pos a) (show 0 < -b.num by omega)
  rw [Int.mul_neg] at this
  exact this
 ·exact absurd (Rat.num_eq_zero.1 hb) h.b0
 ·exact reduced_dig (Int.mul_pos (den_pos a) hb) h.n h.d
/-- 0 less a fraction is never too large. -/
theorem SF.neg {a:Rat} (h:QDig 200 a):SF 0 a:=by
 refine ⟨⟨by unfold Dig;decide,by unfold Dig;decide⟩,h,?_,?_,?_,?_⟩
 ·show Fits (0 * _);rw [Int.zero_mul];exact (show Dig 200 0 by unfold Dig;decide)
 ·show Fits (a.num * 1);rw [Int.mul_one];exact h.1
 ·show Fits (0 * _ - a.num * 1);rw [Int.zero_mul,Int.mul_one,Int.zero_sub];show Dig 200 _;unfold Dig;rw [Int.natAbs_neg];exact h.1
 ·show Fits (1 * _);rw [Int.one_mul];exact h.2
structure RadF (f:Frm):Prop where
 dig:FDig 200 f
 step:∀ k,k<f.t.length→AF (radTo f.t k) (absQ (trD f.t k).c)
 last:AF (radTo f.t f.t.length) f.r
theorem RadF.of {d m n:Nat} {f:Frm} (h:FGr d m f) (hn:f.t.length+1≤n) (hd:0<d) (h1:d<10 ^ 99) (h2:n * m<10 ^ 99):RadF f:=by
 have hm:m≤n * m:=Nat.le_mul_of_pos_left m (by omega)
 have hk:∀ k,k≤f.t.length→QDig 99 (radTo f.t k):=fun k hk=>(radTo_gr h.t k hk).dig hd h1 (Nat.lt_of_le_of_lt (Nat.mul_le_mul_right m (by omega)) h2)
 exact ⟨(h.dig hd h1 (by omega)).mono (by decide),fun k hlt=>AF.of (hk k (by omega)) (((h.t _ (trD_mem hlt)).abs).dig hd h1 (by omega)) (by decide),AF.of (hk _ (Nat.le_refl _)) (h.r.dig hd h1 (by omega)) (by decide)⟩
structure LinF (p q:Rat) (a b:Frm):Prop where
 dp:QDig 200 p
 dq:QDig 200 q
 da:FDig 200 a
 db:FDig 200 b
 l:∀ x,x ∈ a.t→MF p x.c
 r:∀ y,y ∈ b.t→MF q y.c
 s:∀ x,x ∈ a.t→∀ y,y ∈ b.t→x.s=y.s→AF (p * x.c) (q * y.c)
 rl:MF (absQ p) a.r
 rr:MF (absQ q) b.r
 rs:AF (absQ p * a.r) (absQ q * b.r)
 few:(lin p q a.t b.t).length≤64
theorem LinF.of {j k:Nat} {p q:Rat} {a b:Frm} (hp:QDig j p) (hq:QDig j q) (ha:FDig k a) (hb:FDig k b) (hjk:(j+k)+(j+k)+1≤200) (few:(lin p q a.t b.t).length≤64):LinF p q a b :=
 ⟨hp.mono (by omega),hq.mono (by omega),ha.mono (by omega),hb.mono (by omega),fun x hx=>MF.of hp (ha.t x hx) (by omega),fun y hy=>MF.of hq (hb.t y hy) (by omega),
  fun x hx y hy _=>AF.of (hp.mul (ha.t x hx)) (hq.mul (hb.t y hy)) hjk,MF.of (absQ_dig hp) ha.r (by omega),MF.of (absQ_dig hq) hb.r (by omega),AF.of ((absQ_dig hp).mul ha.r) ((absQ_dig hq).mul hb.r) hjk,few⟩
structure CombF (p q:Rat) (a b:Frm):Prop where
 lin:LinF p q a b
 cl:MF p a.c
 cr:MF q b.c
 cs:AF (p * a.c) (q * b.c)
theorem CombF.of {j k:Nat} {p q:Rat} {a b:Frm} (hp:QDig j p) (hq:QDig j q) (ha:FDig k a) (hb:FDig k b) (hjk:(j+k)+(j+k)+1≤200) (few:(Proofs.YtnokpldomlmamaaGreatDoor.lin p q a.t b.t).length≤64):CombF p q a b :=
 ⟨LinF.of hp hq ha hb hjk few,MF.of hp ha.c (by omega),MF.of hq hb.c (by omega),AF.of (hp.mul ha.c) (hq.mul hb.c) hjk⟩
end Go.Proofs.YtnokpldomlmamaaGreatDoor
namespace Go.Proofs.YtnokpldomlmamaaGreatDoor
open Go Go.RowKit Go.Lib Go.Shelf
theorem fromInt_any (n:Int) (h0 : -9223372036854775808≤n) (h1:n≤9223372036854775807) (w:World) (ht:Tab w) :
  Calls Tryz.prog 187 #[.int .i64 n] w fun e w'=>e = .returned (.string ⟨(itoa n).toArray⟩)∧Below w.heap.size w w':=by
 go_enter Tryz.func187, Tryz.ntmps187
 go_wp2_with (go_at_call 223; go_must (refine (Tryz.strconv_Itoa n h0 h1 _ ht).mono ?_;rintro e w1 ⟨rfl,k,os,rfl⟩))
 go_ret
 exact ⟨rfl,below_grown_sl _ _ _ _ (Nat.le_refl _)⟩
end Go.Proofs.YtnokpldomlmamaaGreatDoor
namespace Go.Proofs.YtnokpldomlmamaaGreatDoor
open Go Go.RowKit Go.Lib Go.Shelf
theorem wp_scope_jumps' {P:Program} {Q:Exit→Act→World→Prop} {a:Act} {w:World} {c rest:Code} (l:Nat) (J:Act→World→Prop) (μ:Act→World→Nat) (hf:findLabel c l=some (.seq .skip rest))
  (pass:∀ a w,J a w→rest.wp P (Exit.jump l (fun a' w'=>J a' w'∧μ a' w'<μ a w) Q) a w)
  (first:(∀ a w,J a w→rest.wp P (Exit.jump l J Q) a w)→c.wp P (Exit.jump l J Q) a w):(Code.scope c).wp P Q a w:=by
 refine wp_scope_jumps l J μ hf (first fun a w hJ=>Code.wp_mono (fun e a' w' h => ?_) (pass a w hJ)) (fun a w hJ=>wp_seq (wp_skip (pass a w hJ)))
 cases e
 case goto=>exact ⟨h.1,h.2.1⟩
 all_goals exact h
/-- The number that a cell's text spells. -/
def cellZ (w:World) (b:Nat):Nat:=match w.cell? ⟨b,1,none⟩ with | some (.string s)=>(zOf s.data.toList).natAbs | _=>0
theorem cellZ_eq {w:World} {b:Nat} {z:Int} (h:w.cell? ⟨b,1,none⟩=some (.string (S z))):cellZ w b=z.natAbs:=by
 unfold cellZ;rw [h];simp only;rw [is_S z,zOf_itoa]
/-- What holds of the two fractions at each round. -/
structure CmpInv (g:Int) (s n d m e:Int):Prop where
 hd:0<d
 he:0<e
 hs:s=1∨s = -1
 val:s * cmpI (n * e) (m * d)=g
 fn:Fits n
 fd:Fits d
 fm:Fits m
 fe:Fits e
def CmpJ (w:World) (g:Int) (B:Nat) (A0 B0:Value) (a':Act) (w':World):Prop:=∃ (s n d m e:Int) (u6:Value) (u7:Value) (u8:Value) (u9:Value) (u10:Value) (u11:Value) (u12:Value) (u13:Value) (u14:Value) (u15:Value) (u16:Value) (u17:Value) (u18:Value) (u19:Value) (u20:Value) (u21:Value) (u22:Value) (u23:Value) (u24:Value) (u25:Value) (u26:Value) (u27:Value) (u28:Value) (u29:Value) (u30:Value) (u31:Value) (u32:Value) (u33:Value) (u34:Value) (u35:Value) (u36:Value) (u37:Value) (u38:Value) (u39:Value) (u40:Value) (u41:Value) (u42:Value) (u43:Value) (u44:Value) (u45:Value) (u46:Value) (u47:Value) (u48:Value) (u49:Value) (u50:Value) (u51:Value) (u52:Value) (u53:Value) (u54:Value) (u55:Value) (u56:Value) (u57:Value) (u58:Value) (u59:Value) (u60:Value) (u61:Value) (u62:Value) (u63:Value) (u64:Value) (u65:Value) (u66:Value) (u67:Value) (u68:Value) (u69:Value) (u70:Value) (u71:Value) (u72:Value) (u73:Value),a'={ tmps:=#[A0,B0,.pointer (some ⟨B,0,none⟩),.pointer (some ⟨B+1,0,none⟩),.int .i64 0,.int .i64 s,u6,u7,u8,u9,u10,u11,u12,u13,u14,u15,u16,u17,u18,u19,u20,u21,u22,u23,u24,u25,u26,u27,u28,u29,u30,u31,u32,u33,u34,u35,u36,u37,u38,u39,u40,u41,u42,u43,u44,u45,u46,u47,u48,u49,u50,u51,u52,u53,u54,u55,u56,u57,u58,u59,u60,u61,u62,u63,u64,u65,u66,u67,u68,u69,u70,u71,u72,u73],defers:=[] }∧CmpInv g s n d m e∧Row w' B (.cells #[.string (S n),.string (S d)] 23)∧Row w' (B+1) (.cells #[.string (S m),.string (S e)] 23)∧Below w.heap.size w w'
theorem dig_fits_mod {x y:Int} (h:Fits y) (hy:y≠0):Fits (x % y):=(Dig.emod (k:=200) x h hy)
theorem dig_fits_div {x:Int} (h:Fits x) (y:Int):Fits (x / y):=(Dig.ediv (k:=200) h y)
theorem qcompare (a b:Rat) (ha:QDig 200 a) (hb:QDig 200 b) (w:World) (he:Env w) :
  Calls Tryz.prog 53 #[Q a,Q b] w (CmpOk (cmpQ a b) w):=by
 obtain ⟨r1,r2,hB⟩:Row ((w.alloc (.cells #[.string (S a.num),.string (S (a.den:Int))] 23)).alloc (.cells #[.string (S b.num),.string (S (b.den:Int))] 23)) w.heap.size (.cells #[.string (S a.num),.string (S (a.den:Int))] 23)∧Row ((w.alloc (.cells #[.string (S a.num),.string (S (a.den:Int))] 23)).alloc (.cells #[.string (S b.num),.string (S (b.den:Int))] 23)) (w.heap.size+1) (.cells #[.string (S b.num),.string (S (b.den:Int))] 23)∧Below w.heap.size w ((w.alloc (.cells #[.string (S a.num),.string (S (a.den:Int))] 23)).alloc (.cells #[.string (S b.num),.string (S (b.den:Int))] 23)):=by
  refine ⟨(row_new w _).alloc _,?_,((Below.refl w.heap.size w).alloc (Nat.le_refl _) _).alloc (by simp) _⟩
  have e1:(w.alloc (.cells #[.string (S a.num),.string (S (a.den:Int))] 23)).heap.size=w.heap.size+1:=by simp
  rw [← e1];exact row_new _ _
 have I0:CmpInv (cmpQ a b) 1 a.num a.den b.num b.den:=⟨den_pos a,den_pos b,.inl rfl,by rw [Int.one_mul,cmpQ_parts],ha.1,ha.2,hb.1,hb.2⟩
 show Calls Tryz.prog 53 #[.agg #[.string (S a.num),.string (S (a.den:Int))],.agg #[.string (S b.num),.string (S (b.den:Int))]] w _
 have h1:=fun W (h:Env W)=>qvalid a ha W h
 have h2:=fun W (h:Env W)=>qvalid b hb W h
 generalize cmpQ a b=g at *
 go_enter Tryz.func53, Tryz.ntmps53
 go_wp2_with fail
 refine wp_scope_jumps' 0 (CmpJ w g w.heap.size (.agg #[.string (S a.num),.string (S (a.den:Int))]) (.agg #[.string (S b.num),.string (S (b.den:Int))])) (fun _ w'=>cellZ w' w.heap.size) rfl ?_ fun hp => ?_
 ·clear h1 h2 I0 r1 r2 hB
  generalize (Value.agg #[.string (S a.num),.string (S (a.den:Int))])=A0
  generalize (Value.agg #[.string (S b.num),.string (S (b.den:Int))])=B0
  rintro a' w' ⟨s,n,d,m,e,u6,u7,u8,u9,u10,u11,u12,u13,u14,u15,u16,u17,u18,u19,u20,u21,u22,u23,u24,u25,u26,u27,u28,u29,u30,u31,u32,u33,u34,u35,u36,u37,u38,u39,u40,u41,u42,u43,u44,u45,u46,u47,u48,u49,u50,u51,u52,u53,u54,u55,u56,u57,u58,u59,u60,u61,u62,u63,u64,u65,u66,u67,u68,u69,u70,u71,u72,u73,rfl,HI,r1,r2,hB⟩
  have hd:=Lib.hid HI.hd
  have hee:=Lib.hid HI.he
  have V:=Lib.hid HI.val
  have hs:=Lib.hid HI.hs
  obtain ⟨fn,fd,fm,fe⟩:Fits n∧Fits d∧Fits m∧Fits e:=⟨HI.fn,HI.fd,HI.fm,HI.fe⟩
  have sl : -1≤s∧s≤1:=by rcases hs.out with h | h <;> omega
  obtain ⟨sl1,sl2⟩:=sl
  clear HI
  obtain ⟨p,hp⟩:∃ p,n / d=p:=⟨_,rfl⟩
  obtain ⟨r,hr⟩:∃ r,n % d=r:=⟨_,rfl⟩
  obtain ⟨q,hq⟩:∃ q,m / e=q:=⟨_,rfl⟩
  obtain ⟨t,ht⟩:∃ t,m % e=t:=⟨_,rfl⟩
  have fp:Fits p:=hp ▸ dig_fits_div fn d
  have fq:Fits q:=hq ▸ dig_fits_div fm e
  have fr:Fits r:=hr ▸ dig_fits_mod fd (by have:=hd.out;omega)
  have ft:Fits t:=ht ▸ dig_fits_mod fe (by have:=hee.out;omega)
  have CR:=Lib.hid (cmp_round (n:=n) (m:=m) hd.out hee.out)
  rw [hp,hr,hq,ht] at CR
  have M:=cellZ_eq (z:=d) (Row.cells2 r1).2.2.1
  have P1:=Lib.hid hp
  have P2:=Lib.hid hr
  have P3:=Lib.hid hq
  have P4:=Lib.hid ht
  have M':=Lib.hid M
  clear hp hr hq ht M
  obtain ⟨s1,a1,a2,a3,a4⟩:=Row.cells2 r1
  obtain ⟨s2,b1,b2,b3,b4⟩:=Row.cells2 r2
  have in_:=is_S n
  have id_:=is_S d
  have im:=is_S m
  have ie:=is_S e
  have ip:=is_S p
  have iq:=is_S q
  go_wp2_with fail
  refine (divS in_ id_ P1 P2 fn fd (Lib.hid (by have:=hd.out;omega)) _ (he.below hB)).mono ?_
  rintro e W1 ⟨rfl,h1⟩
  replace hB:=hB.trans (h1.mono hB.size)
  replace r1:=r1.below h1
  replace r2:=r2.below h1
  clear h1
  obtain ⟨s1,a1,a2,a3,a4⟩:=Row.cells2 r1
  obtain ⟨s2,b1,b2,b3,b4⟩:=Row.cells2 r2
  go_wp2_with fail
  refine (divS im ie P3 P4 fm fe (Lib.hid (by have:=hee.out;omega)) _ (he.below hB)).mono ?_
  rintro e W2 ⟨rfl,h1⟩
  replace hB:=hB.trans (h1.mono hB.size)
  replace r1:=r1.below h1
  replace r2:=r2.below h1
  clear h1
  obtain ⟨s1,a1,a2,a3,a4⟩:=Row.cells2 r1
  obtain ⟨s2,b1,b2,b3,b4⟩:=Row.cells2 r2
  by_cases c0:p=q
  ·have C0:=Lib.hid c0
   have Z:Hid (cmpZ p q=0):=Lib.hid (cmpZ_eq c0)
   clear c0
   go_wp2_with fail
   refine (cmpS ip iq Z fp fq _).mono ?_
   rintro e W3 ⟨rfl,h1⟩
   replace hB:=hB.trans (h1.mono hB.size)
   replace r1:=r1.below h1
   replace r2:=r2.below h1
   clear h1
   obtain ⟨s1,a1,a2,a3,a4⟩:=Row.cells2 r1
   obtain ⟨s2,b1,b2,b3,b4⟩:=Row.cells2 r2
   by_cases r0:r=0
   ·have z1:=S_eq0 r0
    by_cases t0:t=0
    ·have z2:=S_eq0 t0
     have G:Hid (g=0):=Lib.hid (by rw [← V.out,CR.out.2.1 C0.out r0 t0,Int.mul_zero])
     clear r0 t0
     generalize S r=sr at *
     generalize S t=st at *
     go_wp2
     simp only [Exit.jump]
     go_ret
     exact ⟨by rw [G.out];rfl,hB⟩
    ·have z2:=S_ne0 t0
     have G:Hid (g = -s):=Lib.hid (by rw [← V.out,CR.out.2.2.1 C0.out r0 t0];omega)
     clear r0 t0
     generalize S r=sr at *
     generalize S t=st at *
     go_wp2
     simp only [Exit.jump]
     go_ret
     exact ⟨by rw [G.out];rfl,hB⟩
   ·have z1:=S_ne0 r0
    by_cases t0:t=0
    ·have z2:=S_eq0 t0
     have G:Hid (g=s):=Lib.hid (by rw [← V.out,CR.out.2.2.2.1 C0.out r0 t0];omega)
     clear r0 t0
     generalize S r=sr at *
     generalize S t=st at *
     go_wp2
     simp only [Exit.jump]
     go_ret
     exact ⟨by rw [G.out];rfl,hB⟩
    ·have z2:=S_ne0 t0
     have L:=Lib.hid (CR.out.2.2.2.2 C0.out r0 t0)
     clear r0 t0
     obtain ⟨sr,hsr⟩:∃ x,x=S r:=⟨_,rfl⟩
     obtain ⟨st,hst⟩:∃ x,x=S t:=⟨_,rfl⟩
     rw [← hsr] at z1 ⊢
     rw [← hst] at z2 ⊢
     have HR:=Lib.hid hsr
     have HT:=Lib.hid hst
     clear hsr hst
     go_wp2
     go_region
     go_wp2
     go_step3
     obtain rfl:=HR.out
     obtain rfl:=HT.out
     obtain ⟨l1,l2,l3,l4,l5⟩:=L.out
     have R1:Row ((((W3.setCell ⟨w.heap.size,0,none⟩ (.string (S d))).setCell ⟨w.heap.size,1,none⟩ (.string (S r))).setCell ⟨w.heap.size+1,0,none⟩ (.string (S e))).setCell ⟨w.heap.size+1,1,none⟩ (.string (S t))).drew w.heap.size (.cells #[.string (S d),.string (S r)] 23):=Row.drew (Row.set_other (Row.set_other (Row.set2 r1) _ (by omega)) _ (by omega))
     have R2:Row ((((W3.setCell ⟨w.heap.size,0,none⟩ (.string (S d))).setCell ⟨w.heap.size,1,none⟩ (.string (S r))).setCell ⟨w.heap.size+1,0,none⟩ (.string (S e))).setCell ⟨w.heap.size+1,1,none⟩ (.string (S t))).drew (w.heap.size+1) (.cells #[.string (S e),.string (S t)] 23):=Row.drew (Row.set2 (Row.set_other (Row.set_other r2 _ (by omega)) _ (by omega)))
     have NI:CmpInv g (-s) d r e t:=⟨l1,l3,by rcases hs.out with h | h <;> omega,by rw [← V.out,l5];simp [Int.neg_mul,Int.mul_neg],fd,fr,fe,ft⟩
     have HBB:Below w.heap.size w ((((W3.setCell ⟨w.heap.size,0,none⟩ (.string (S d))).setCell ⟨w.heap.size,1,none⟩ (.string (S r))).setCell ⟨w.heap.size+1,0,none⟩ (.string (S e))).setCell ⟨w.heap.size+1,1,none⟩ (.string (S t))).drew:=C1_hB
     refine ⟨rfl,⟨-s,d,r,e,t,_,_,_,_,_,_,_,_,_,_,_,_,_,_,_,_,_,_,_,_,_,_,_,_,_,_,_,_,_,_,_,_,_,_,_,_,_,_,_,_,_,_,_,_,_,_,_,_,_,_,_,_,_,_,_,_,_,_,_,_,_,_,_,_,_,_,_,_,rfl,NI,R1,R2,HBB⟩,?_⟩
     rw [cellZ_eq (z:=r) (Row.cells2 R1).2.2.1,M'.out]
     omega
  ·obtain ⟨c,hc⟩:∃ c,cmpZ p q=c:=⟨_,rfl⟩
   have Z:=Lib.hid hc
   have n0:(c != 0)=true:=by
    rw [← hc];unfold cmpZ;split <;> (try split) <;> first | rfl | omega
   obtain ⟨v,hv⟩:∃ v,s * c=v:=⟨_,rfl⟩
   have G:Hid (g=v):=Lib.hid (by rw [← V.out,CR.out.1 c0,← hv,← hc];rfl)
   have vl : -1≤v∧v≤1:=by
    rw [← hv,← hc];unfold cmpZ;rcases hs.out with h | h <;> rw [h] <;> split <;> (try split) <;> omega
   obtain ⟨vl1,vl2⟩:=vl
   clear c0 hc
   go_wp2_with fail
   refine (cmpS ip iq Z fp fq _).mono ?_
   rintro e W3 ⟨rfl,h1⟩
   replace hB:=hB.trans (h1.mono hB.size)
   replace r1:=r1.below h1
   replace r2:=r2.below h1
   clear h1
   obtain ⟨s1,a1,a2,a3,a4⟩:=Row.cells2 r1
   obtain ⟨s2,b1,b2,b3,b4⟩:=Row.cells2 r2
   generalize S r=sr at *
   generalize S t=st at *
   go_wp2
   simp only [Exit.jump]
   go_ret
   exact ⟨by rw [G.out];rfl,hB⟩
 ·go_wp2_with fail
  generalize ((w.alloc (.cells #[.string (S a.num),.string (S (a.den:Int))] 23)).alloc (.cells #[.string (S b.num),.string (S (b.den:Int))] 23))=W0 at *
  refine (h1 _ (he.below hB)).mono ?_
  rintro e W1 ⟨rfl,h1⟩
  replace hB:=hB.trans (h1.mono hB.size)
  replace r1:=r1.below h1
  replace r2:=r2.below h1
  clear h1
  obtain ⟨s1,a1,a2,a3,a4⟩:=Row.cells2 r1
  obtain ⟨s2,b1,b2,b3,b4⟩:=Row.cells2 r2
  go_wp2_with fail
  refine (h2 _ (he.below hB)).mono ?_
  rintro e W2 ⟨rfl,h1⟩
  replace hB:=hB.trans (h1.mono hB.size)
  replace r1:=r1.below h1
  replace r2:=r2.below h1
  clear h1
  obtain ⟨s1,a1,a2,a3,a4⟩:=Row.cells2 r1
  obtain ⟨s2,b1,b2,b3,b4⟩:=Row.cells2 r2
  go_wp2_with fail
  go_step3
  rename_i hK
  refine hK _ _ (hp _ _ ?_)
  exact ⟨1,a.num,a.den,b.num,b.den,_,_,_,_,_,_,_,_,_,_,_,_,_,_,_,_,_,_,_,_,_,_,_,_,_,_,_,_,_,_,_,_,_,_,_,_,_,_,_,_,_,_,_,_,_,_,_,_,_,_,_,_,_,_,_,_,_,_,_,_,_,_,_,_,_,_,_,_,rfl,I0,r1,r2,hB⟩
end Go.Proofs.YtnokpldomlmamaaGreatDoor
