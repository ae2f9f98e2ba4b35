/-
 What the base lacks.
-/
import Derived.Carry
import Derived.Deep.DeepHandedRow
import Derived.Deep.RegionHeld3
import Derived.Defers
import Derived.LaidEql
import Derived.Lay
import Derived.Lib.LaidTab
import Derived.Lib.LaidU8
import Derived.Lib.SmallJoins
import Derived.MakeChecks
import Derived.OpenShut
import Derived.ProofKit
import Derived.Recover
import Derived.RowKitTokens
import Derived.SevenTiedAt
import Derived.Stop.Asserts
import Derived.Stop.LaidErr
import Derived.Test.YtjpkfjmmmmfeeaaGreatDoorCards
import Derived.Test.YtjpkfjmmmmfeeaaGreatDoorProg
import Derived.Test.YtjpkfjmmmmfeeaaGreatDoorTie
import Derived.WalkKit
import Derived.WalkMore
import Derived.WideKeyArr2
import Derived.Test.YtjpkfjmmmmfeeaaGreatDoorKAAt
import Derived.Test.YtjpkfjmmmmfeeaaGreatDoorKAComb
import Derived.Test.YtjpkfjmmmmfeeaaGreatDoorKACompute
import Derived.Test.YtjpkfjmmmmfeeaaGreatDoorKACov
import Derived.Test.YtjpkfjmmmmfeeaaGreatDoorKAExample
import Derived.Test.YtjpkfjmmmmfeeaaGreatDoorKAFits
import Derived.Test.YtjpkfjmmmmfeeaaGreatDoorKAInverse
import Derived.Test.YtjpkfjmmmmfeeaaGreatDoorKALin
import Derived.Test.YtjpkfjmmmmfeeaaGreatDoorKALine
import Derived.Test.YtjpkfjmmmmfeeaaGreatDoorKALinear
import Derived.Test.YtjpkfjmmmmfeeaaGreatDoorKAMade
import Derived.Test.YtjpkfjmmmmfeeaaGreatDoorKAMadeW
import Derived.Test.YtjpkfjmmmmfeeaaGreatDoorKAMul
import Derived.Test.YtjpkfjmmmmfeeaaGreatDoorKANum
import Derived.Test.YtjpkfjmmmmfeeaaGreatDoorKARange
import Derived.Test.YtjpkfjmmmmfeeaaGreatDoorKASame
import Derived.Test.YtjpkfjmmmmfeeaaGreatDoorKAValid
import Derived.Test.YtjpkfjmmmmfeeaaGreatDoorKBuild
import Derived.Test.YtjpkfjmmmmfeeaaGreatDoorKCmp
import Derived.Test.YtjpkfjmmmmfeeaaGreatDoorKDPlain2
import Derived.Test.YtjpkfjmmmmfeeaaGreatDoorKEHull
import Derived.Test.YtjpkfjmmmmfeeaaGreatDoorKEOps
import Derived.Test.YtjpkfjmmmmfeeaaGreatDoorKERound
import Derived.Test.YtjpkfjmmmmfeeaaGreatDoorKESqrt
import Derived.Test.YtjpkfjmmmmfeeaaGreatDoorKEValid
import Derived.Test.YtjpkfjmmmmfeeaaGreatDoorKLaw1
import Derived.Test.YtjpkfjmmmmfeeaaGreatDoorKOver
import Derived.Test.YtjpkfjmmmmfeeaaGreatDoorKPlain3
import Derived.Test.YtjpkfjmmmmfeeaaGreatDoorKQCheck1
import Derived.Test.YtjpkfjmmmmfeeaaGreatDoorKQCmp
import Derived.Test.YtjpkfjmmmmfeeaaGreatDoorKQPlain6
import Derived.Test.YtjpkfjmmmmfeeaaGreatDoorKQPlain7
import Derived.Test.YtjpkfjmmmmfeeaaGreatDoorKQSum
import Derived.Test.YtjpkfjmmmmfeeaaGreatDoorKQuiet
import Derived.Test.YtjpkfjmmmmfeeaaGreatDoorKRQ
import Derived.Test.YtjpkfjmmmmfeeaaGreatDoorKRefO
import Derived.Test.YtjpkfjmmmmfeeaaGreatDoorKRefQ
import Derived.Test.YtjpkfjmmmmfeeaaGreatDoorKRound
import Derived.Test.YtjpkfjmmmmfeeaaGreatDoorKSane8
import Derived.Test.YtjpkfjmmmmfeeaaGreatDoorKSig
import Derived.Test.YtjpkfjmmmmfeeaaGreatDoorKStr3
import Derived.Test.YtjpkfjmmmmfeeaaGreatDoorKStr6
import Derived.Test.YtjpkfjmmmmfeeaaGreatDoorKTail2
import Derived.Test.YtjpkfjmmmmfeeaaGreatDoorKTail3
import Derived.Test.YtjpkfjmmmmfeeaaGreatDoorKExtra0
set_option linter.unusedSimpArgs false
set_option linter.unusedVariables false
set_option maxRecDepth 100000
set_option maxHeartbeats 4000000
namespace Go.Proofs.YtjpkfjmmmmfeeaaGreatDoor
open Go.Lib
end Go.Proofs.YtjpkfjmmmmfeeaaGreatDoor
namespace Go.Proofs.YtjpkfjmmmmfeeaaGreatDoor
open Go.Lib
end Go.Proofs.YtjpkfjmmmmfeeaaGreatDoor
namespace Go.Proofs.YtjpkfjmmmmfeeaaGreatDoor
open Go.Lib
/-! ### Roots -/
end Go.Proofs.YtjpkfjmmmmfeeaaGreatDoor
namespace Go.Proofs.YtjpkfjmmmmfeeaaGreatDoor
open Go.Lib
end Go.Proofs.YtjpkfjmmmmfeeaaGreatDoor
namespace Go.Proofs.YtjpkfjmmmmfeeaaGreatDoor
open Go.Lib
end Go.Proofs.YtjpkfjmmmmfeeaaGreatDoor
namespace Go.Proofs.YtjpkfjmmmmfeeaaGreatDoor
open Go.Lib
theorem SqrtI.has {a s:Iv} {T:Int} {r:Rat} (hT:0<T) (hr:0≤r) (h:a.Has (r * r)) (hs:SqrtI a T s):s.Has r:=by
 obtain ⟨_,a2,_⟩:=hs.1.spec hT
 obtain ⟨b1,b2,_⟩:=hs.2.spec hT
 exact ⟨le_of_sq hr (Rat.le_trans a2 h.1),le_of_sq b1 (Rat.le_trans h.2 b2)⟩
end Go.Proofs.YtjpkfjmmmmfeeaaGreatDoor
namespace Go.Proofs.YtjpkfjmmmmfeeaaGreatDoor
open Go Go.RowKit Go.Lib Go.Shelf
theorem qdiv {j k:Nat} {a b:Rat} (ha:QDig j a) (hb:QDig k b) (hjk:j+k≤200) (hb0:b≠0) (w:World) (he:Env w) :
  Calls Tryz.prog 30 #[Q a,Q b] w (QOk (a / b) w):=qdivF (DF.of ha hb hjk hb0) w he
end Go.Proofs.YtjpkfjmmmmfeeaaGreatDoor
namespace Go.Proofs.YtjpkfjmmmmfeeaaGreatDoor
open Go Go.RowKit Go.Lib Go.Shelf
theorem qsub {j k:Nat} {a b:Rat} (ha:QDig j a) (hb:QDig k b) (hjk:j+k+1≤200) (w:World) (he:Env w) :
  Calls Tryz.prog 31 #[Q a,Q b] w (QOk (a - b) w):=qsubF (SF.of ha hb hjk) w he
end Go.Proofs.YtjpkfjmmmmfeeaaGreatDoor
namespace Go.Proofs.YtjpkfjmmmmfeeaaGreatDoor
open Go Go.RowKit Go.Extern.Stop Go.Stop Go.Extern
theorem isTypeOf (v:Value) (w:World):(Extern.ReflectliteType.typeOf #[.iface 283 v]).run Tryz.prog w = .ok (.iface 214 (.agg #[.pointer (some ⟨10, 283, none⟩)])) w:=by kernel_rfl
theorem callComparable (w:World):(callFunc 285 #[.agg #[.pointer (some ⟨10, 283, none⟩)]]).run Tryz.prog w = .ok (.value (.bool true)) w:=by
 have h:=@run_callFunc_extern Tryz.prog 285 _ (Extern.ReflectliteType.method fun t=>do Extern.Rtype.noPackHeld "Comparable" t;pure (.bool (← typeInfo t).comparable)) Tryz.func285 (by kernel_rfl) (by kernel_rfl) (by kernel_rfl) (by kernel_rfl) #[.agg #[.pointer (some ⟨10, 283, none⟩)]] w
 rw [h]
 have c:((Extern.ReflectliteType.method fun t=>do Extern.Rtype.noPackHeld "Comparable" t;pure (.bool (← typeInfo t).comparable)) #[.agg #[.pointer (some ⟨10, 283, none⟩)]]).run Tryz.prog w = .ok (.bool true) w:=by kernel_rfl
 rw [c];rfl
-- 418: the number of types and a hundred, as the walk shows it; 10: the number of package-level variables: a new seat has other numbers
theorem isMethodComparable (v:Value) (w:World):(Go.method 418 214 v "Comparable").run Tryz.prog w = .ok (285, v) w:=by kernel_rfl
theorem is_comp:(Tryz.prog.info? 283).map (·.comparable)=some true:=by kernel_rfl
theorem is_size:(Tryz.prog.info? 285).map (·.size)=some 1:=by kernel_rfl
/-- errors.Is(x, x), x a pointer to an errors.errorString. -/
theorem is_same (a:Addr) (w:World) :
  Calls Tryz.prog 101 #[.iface 283 (.pointer (some a)),.iface 283 (.pointer (some a))] w fun e w'=>e = .returned (.bool true)∧w'=w:=by
 obtain ⟨i,hi,hcmp⟩:=Option.map_eq_some_iff.1 is_comp
 obtain ⟨j,hj,hjs⟩:=Option.map_eq_some_iff.1 is_size
 have h8:=@run_callFunc_extern Tryz.prog 160 _ Extern.ReflectliteType.typeOf Tryz.func160 (by kernel_rfl) (by kernel_rfl) (by kernel_rfl) (by kernel_rfl)
 have h32:=callComparable
 have tT:=isTypeOf
 have mR:=isMethodComparable
 have heq:=run_eql_iface_ptr_same (P:=Tryz.prog) w a Tryz.underlying129 Tryz.underlying283 hi hcmp hj
 go_enter Tryz.func101, Tryz.ntmps101
 go_wp2
 refine wp_loop_rounds 1 ?_
 rw [rounds_succ]
 go_wp2
 go_ret
 exact ⟨rfl,rfl⟩
end Go.Proofs.YtjpkfjmmmmfeeaaGreatDoor
namespace Go.Proofs.YtjpkfjmmmmfeeaaGreatDoor
open Go Go.RowKit Go.Lib Go.Shelf
def FailsOk (a:Addr) (w:World) (e:Ending) (w':World):Prop:=e = .panicked [{ v := .iface 283 (.pointer (some a)),recovered:=false }]∧Below w.heap.size w w'
theorem echeck_false {a:Addr} (w:World) (he:EnvE a w):Calls Tryz.prog 135 #[.bool false] w (FailsOk a w):=by
 have hg:=he.fails
 go_enter Tryz.func135, Tryz.ntmps135
 go_wp2
 exact ⟨rfl,rfl,Below.refl _ _⟩
theorem assert_err (v:Value) (w:World):(Instr.typeAssert (.iface 283 v) 20 129 true).run Tryz.prog w = .ok (.tuple #[.iface 283 v,.bool true]) w:=run_typeAssert_hasB Tryz.underlying129 (by kernel_rfl) v _ w
/-! compute[yardstick/api.Interval] -/
def ivErr (w:World) (e:Ending) (w':World):Prop:=e = .returned (.tuple #[.agg #[.string ⟨#[]⟩,.string ⟨#[]⟩,.string ⟨#[]⟩,.string ⟨#[]⟩],.int .i64 50])∧Below w.heap.size w w'
theorem ivcatch (bp bq:Nat) (a:Addr) (older:List PanicEntry) (w:World) (v0 v1 v2 v3 x:Value) (hne:bp≠bq) (hp:Row w bp (.cells #[v0,v1,v2,v3] 53)) (hq:Row w bq (.cells #[x] 34)) (he:EnvE a w) :
  CallsD Tryz.prog 182 #[.pointer (some ⟨bp,0,none⟩),.pointer (some ⟨bq,0,none⟩)] (.panicking ({ v := .iface 283 (.pointer (some a)),recovered:=false } :: older)) w fun e u' w' =>
   e = .returned (.tuple #[])∧u' = .panicking ({ v := .iface 283 (.pointer (some a)),recovered:=true } :: older)∧Row w' bp (.cells #[.string ⟨#[]⟩,.string ⟨#[]⟩,.string ⟨#[]⟩,.string ⟨#[]⟩] 53)∧Row w' bq (.cells #[.int .i64 50] 34)∧∀ n,n≤bp→n≤bq→Below n w w':=by
 have hta:=assert_err
 have hg:=he.fails
 obtain ⟨sp,cp0,cp1,cp2,cp3,fp0,fp1,fp2,fp3⟩:=Row.cells4 hp
 obtain ⟨sq,cq,fq⟩:=Row.cells1 hq
 have hne':bq≠bp:=fun h=>hne h.symm
 have np:bp≠w.heap.size:=by omega
 have nq:bq≠w.heap.size:=by omega
 refine callsD_of_wpS Tryz.func182 rfl fun c₀ cs hu => ?_
 have e:(#[.pointer (some ⟨bp,0,none⟩),.pointer (some ⟨bq,0,none⟩)] ++ Array.replicate (Tryz.f182.ntmps - (#[.pointer (some ⟨bp,0,none⟩),.pointer (some ⟨bq,0,none⟩)]:Array Value).size) undef:Array Value)=#[.pointer (some ⟨bp,0,none⟩),.pointer (some ⟨bq,0,none⟩),undef,undef,undef,undef,undef,undef,undef,undef,undef,undef,undef,undef,undef,undef,undef]:=by kernel_rfl
 rw [e]
 apply wpS_seq
 apply wpS_region
 simp [wpOpsS,go_sem,recoverD,hu,Exit.thenS,hta]
 refine wpS_of_wp ?_
 go_hide hQ
 go_wp2_with fail
 refine (is_same a _).mono ?_
 rintro e' w' ⟨rfl,rfl⟩
 go_wp2
 subst hQ
 refine ⟨rfl,_,rfl,.tuple #[],by simp [results,Tryz.results182],rfl,rfl,?_,?_,fun n h1 h2 => ?_⟩
 ·repeat (first | (with_reducible exact hp) | (with_reducible exact row_new' (by first | omega | (simp;done) | (simp;omega))) | (with_reducible refine Row.drew ?_) | (with_reducible refine Row.alloc ?_ _) | (with_reducible apply Row.set4) | (with_reducible apply Row.set4a) | (with_reducible apply Row.set4b) | (with_reducible apply Row.set2) | (with_reducible apply Row.set1) | (with_reducible refine Row.set_other ?_ _ (by first | omega | (simp;done) | (simp;omega))))
 ·repeat (first | (with_reducible exact hq) | (with_reducible exact row_new' (by first | omega | (simp;done) | (simp;omega))) | (with_reducible refine Row.drew ?_) | (with_reducible refine Row.alloc ?_ _) | (with_reducible apply Row.set4) | (with_reducible apply Row.set4a) | (with_reducible apply Row.set4b) | (with_reducible apply Row.set2) | (with_reducible apply Row.set1) | (with_reducible refine Row.set_other ?_ _ (by first | omega | (simp;done) | (simp;omega))))
 ·repeat (first | (with_reducible exact Below.refl _ _) | (with_reducible refine Below.drew ?_) | (with_reducible refine Below.alloc ?_ (by first | omega | (simp;done) | (simp;omega)) _) | (with_reducible refine Below.setCell ?_ (by first | omega | (simp;done) | (simp;omega)) _))
/-- compute, where the function that it calls panics with errFails. -/
theorem ivcompute_err (F:FuncId) (caps:Array Value) (s n:Nat) (a:Addr) (w:World) (he:EnvE a w) (eg:∀ args w,(callFunc F args).run Tryz.prog w = .ok (.enter F args) w)
  (hv:∀ W,Below w.heap.size w W→Calls Tryz.prog 183 #[.slice (some ⟨s,0,none⟩) n n,.func (.func 184) #[] #[]] W (BoolOk false W))
  (h:∀ W,Below w.heap.size w W→Calls Tryz.prog F caps W (FailsOk a W)) :
  Calls Tryz.prog 132 #[.func (.func F) #[] caps,.slice (some ⟨s,0,none⟩) n n] w (ivErr w):=by
 have hmf:∀ (fn:Fn) (first cap:Array Value) (w:World),(Instr.makeFunc fn first cap).run Tryz.prog w = .ok (.func fn first cap) w:=fun _ _ _ _=>rfl
 have hB:Below w.heap.size w w:=Below.refl _ _
 go_enter_defers Tryz.func132, Tryz.ntmps132
 go_wp2_with fail
 refine world_cut (fun X=>Below w.heap.size w X∧Row X w.heap.size (.cells #[.string ⟨#[]⟩,.string ⟨#[]⟩,.string ⟨#[]⟩,.string ⟨#[]⟩] 53)∧Row X (w.heap.size+1) (.cells #[.int .i64 0] 34)) ⟨C5_hB,C4,C4⟩ ?_
 clear hB
 rintro W1 ⟨hB,rp,rq⟩
 refine (hv _ hB).mono ?_
 rintro e W2 ⟨rfl,h1⟩
 replace hB:=hB.trans (h1.mono hB.size)
 replace rp:=Row.below rp h1
 replace rq:=Row.below rq h1
 clear h1
 go_wp2_with fail
 refine (echeck_true _).mono ?_
 rintro e W3 ⟨rfl,h1⟩
 replace hB:=hB.trans (h1.mono hB.size)
 replace rp:=Row.below rp h1
 replace rq:=Row.below rq h1
 clear h1
 have h':=h _ hB
 clear h hv
 go_wp2_with (go_at_fn F;refine h'.mono ?_;rintro e W4 ⟨rfl,h1⟩;replace hB:=hB.trans (h1.mono hB.size);replace rp:=Row.below rp h1;replace rq:=Row.below rq h1)
 refine leaves_cons (f := 182) (args:=#[.pointer (some ⟨w.heap.size,0,none⟩),.pointer (some ⟨w.heap.size+1,0,none⟩)]) (by simp) (by simp [go_sem]) ?_
 refine (ivcatch _ _ a [] _ _ _ _ _ _ (by omega) rp rq (he.below hB)).mono ?_
 rintro e u' w'' ⟨rfl,rfl,rp',rq',hb⟩
 replace hB:=hB.trans (hb w.heap.size (by omega) (by omega))
 obtain ⟨tp,dp0,dp1,dp2,dp3,_gp0,_gp1,_gp2,_gp3⟩:=Row.cells4 rp'
 obtain ⟨tq,dq,_gq⟩:=Row.cells1 rq'
 simp only [Leaves,settle,List.dropWhile_nil]
 exact ⟨.tuple #[.agg #[.string ⟨#[]⟩,.string ⟨#[]⟩,.string ⟨#[]⟩,.string ⟨#[]⟩],.int .i64 50],by simp [results,Tryz.results132, go_sem,dp0,dp1,dp2,dp3,dq],rfl,hB⟩
/-! compute[yardstick/api.Ratio] -/
end Go.Proofs.YtjpkfjmmmmfeeaaGreatDoor
namespace Go.Proofs.YtjpkfjmmmmfeeaaGreatDoor
open Go Go.Lib
theorem Honest.has {h:Hist} {v:Nat→Rat} {n t:Nat} {o:Iv} (hh:Honest h v n) (ht:t<n) (k:Knows h t o):o.Has (v t):=by
 obtain ⟨⟨⟨p,hp,e⟩,_⟩,⟨⟨q,hq,e'⟩,_⟩⟩:=k
 obtain ⟨h1,h2⟩:=hh.seen p hp
 obtain ⟨h3,h4⟩:=hh.seen q hq
 have h5:=hh.slow p.t t h1 ht
 have h6:=hh.slow t q.t ht h3
 rw [dist_comm p.t t] at h5
 have a1:=h2.1;have a4:=h4.2
 unfold lowAt at e
 unfold highAt at e'
 exact ⟨by grind,by grind⟩
theorem Asks.has {h:Hist} {t:Nat} {v:Rat} {o:Iv} {p:Pt} {x:Rat} (hf:Free h) (k:Knows h t o) (hv:o.Has v) (hp:p ∈ h.pts) (a:Asks h t v p.t h.pts x):p.iv.Has x:=by
 have h1:=a.2.2 p hp
 rw [dist_self,far_zero] at h1
 refine ⟨by grind,?_⟩
 rcases a.1 with e | ⟨q,hq,e⟩
 ·have h2:=k.2.2 p hp
  have h3:=hv.2
  unfold highAt at h2
  grind
 ·have h2:=(not_contra.1 (hf q hq p hp)).2
  rw [dist_comm] at h2
  grind
end Go.Proofs.YtjpkfjmmmmfeeaaGreatDoor
namespace Go.Proofs.YtjpkfjmmmmfeeaaGreatDoor
open Go Go.RowKit Go.Lib Go.Shelf
theorem acheck_false {a0 a:Addr} (w:World) (he:EnvA a0 a w):Calls Tryz.prog 61 #[.bool false] w (FailsOk a w):=by
 have hg:=he.failsA
 go_enter Tryz.func61, Tryz.ntmps61
 go_wp2
 exact ⟨rfl,rfl,Below.refl _ _⟩
/-! compute[yardstick/api.Interval] -/
/-! compute[yardstick/api.Form] -/
def afErr (w:World) (e:Ending) (w':World):Prop:=e = .returned (.tuple #[.agg #[.string ⟨#[]⟩,.string ⟨#[]⟩,.slice none 0 0,.string ⟨#[]⟩,.string ⟨#[]⟩],.int .i64 80])∧Below w.heap.size w w'
theorem afcatch (bp bq:Nat) (a0 a:Addr) (older:List PanicEntry) (w:World) (v0 v1 v2 v3 v4 x:Value) (hne:bp≠bq) (hp:Row w bp (.cells #[v0,v1,v2,v3,v4] 30)) (hq:Row w bq (.cells #[x] 34)) (he:EnvA a0 a w) :
  CallsD Tryz.prog 100 #[.pointer (some ⟨bp,0,none⟩),.pointer (some ⟨bq,0,none⟩)] (.panicking ({ v := .iface 283 (.pointer (some a)),recovered:=false } :: older)) w fun e u' w' =>
   e = .returned (.tuple #[])∧u' = .panicking ({ v := .iface 283 (.pointer (some a)),recovered:=true } :: older)∧Row w' bp (.cells #[.string ⟨#[]⟩,.string ⟨#[]⟩,.slice none 0 0,.string ⟨#[]⟩,.string ⟨#[]⟩] 30)∧Row w' bq (.cells #[.int .i64 80] 34)∧∀ n,n≤bp→n≤bq→Below n w w':=by
 have hta:=assert_err
 have hg:=he.failsA
 obtain ⟨sp,cp0,cp1,cp2,cp3,cp4,fp0,fp1,fp2,fp3,fp4⟩:=Row.cells5 hp
 obtain ⟨sq,cq,fq⟩:=Row.cells1 hq
 have hne':bq≠bp:=fun h=>hne h.symm
 have np:bp≠w.heap.size:=by omega
 have nq:bq≠w.heap.size:=by omega
 refine callsD_of_wpS Tryz.func100 rfl fun c₀ cs hu => ?_
 have e:(#[.pointer (some ⟨bp,0,none⟩),.pointer (some ⟨bq,0,none⟩)] ++ Array.replicate (Tryz.f100.ntmps - (#[.pointer (some ⟨bp,0,none⟩),.pointer (some ⟨bq,0,none⟩)]:Array Value).size) undef:Array Value)=#[.pointer (some ⟨bp,0,none⟩),.pointer (some ⟨bq,0,none⟩),undef,undef,undef,undef,undef,undef,undef,undef,undef,undef,undef,undef,undef,undef,undef]:=by kernel_rfl
 rw [e]
 apply wpS_seq
 apply wpS_region
 simp [wpOpsS,go_sem,recoverD,hu,Exit.thenS,hta]
 refine wpS_of_wp ?_
 go_hide hQ
 go_wp2_with fail
 refine (is_same a _).mono ?_
 rintro e' w' ⟨rfl,rfl⟩
 go_wp2
 subst hQ
 refine ⟨rfl,_,rfl,.tuple #[],by simp [results,Tryz.results100],rfl,rfl,?_,?_,fun n h1 h2 => ?_⟩
 ·repeat (first | (with_reducible exact hp) | (with_reducible exact row_new' (by first | omega | (simp;done) | (simp;omega))) | (with_reducible refine Row.drew ?_) | (with_reducible refine Row.alloc ?_ _) | (with_reducible apply Row.set5) | (with_reducible apply Row.set4) | (with_reducible apply Row.set4a) | (with_reducible apply Row.set4b) | (with_reducible apply Row.set2) | (with_reducible apply Row.set1) | (with_reducible refine Row.set_other ?_ _ (by first | omega | (simp;done) | (simp;omega))))
 ·repeat (first | (with_reducible exact hq) | (with_reducible exact row_new' (by first | omega | (simp;done) | (simp;omega))) | (with_reducible refine Row.drew ?_) | (with_reducible refine Row.alloc ?_ _) | (with_reducible apply Row.set5) | (with_reducible apply Row.set4) | (with_reducible apply Row.set4a) | (with_reducible apply Row.set4b) | (with_reducible apply Row.set2) | (with_reducible apply Row.set1) | (with_reducible refine Row.set_other ?_ _ (by first | omega | (simp;done) | (simp;omega))))
 ·repeat (first | (with_reducible exact Below.refl _ _) | (with_reducible refine Below.drew ?_) | (with_reducible refine Below.alloc ?_ (by first | omega | (simp;done) | (simp;omega)) _) | (with_reducible refine Below.setCell ?_ (by first | omega | (simp;done) | (simp;omega)) _))
/-- compute, where the function that it calls panics with errFails. -/
theorem afcompute_err (F:FuncId) (caps:Array Value) (s n:Nat) (a0 a:Addr) (w:World) (he:EnvA a0 a w) (eg:∀ args w,(callFunc F args).run Tryz.prog w = .ok (.enter F args) w)
  (hv:∀ W,Below w.heap.size w W→Calls Tryz.prog 102 #[.slice (some ⟨s,0,none⟩) n n,.func (.func 103) #[] #[]] W (BoolOk false W))
  (h:∀ W,Below w.heap.size w W→Calls Tryz.prog F caps W (FailsOk a W)) :
  Calls Tryz.prog 41 #[.func (.func F) #[] caps,.slice (some ⟨s,0,none⟩) n n] w (afErr w):=by
 have hmf:∀ (fn:Fn) (first cap:Array Value) (w:World),(Instr.makeFunc fn first cap).run Tryz.prog w = .ok (.func fn first cap) w:=fun _ _ _ _=>rfl
 have hB:Below w.heap.size w w:=Below.refl _ _
 go_enter_defers Tryz.func41, Tryz.ntmps41
 go_wp2_with fail
 refine world_cut (fun X=>Below w.heap.size w X∧Row X w.heap.size (.cells #[.string ⟨#[]⟩,.string ⟨#[]⟩,.slice none 0 0,.string ⟨#[]⟩,.string ⟨#[]⟩] 30)∧Row X (w.heap.size+1) (.cells #[.int .i64 0] 34)) ⟨(by repeat (first | (with_reducible exact hB) | (with_reducible refine Below.drew ?_) | (with_reducible refine Below.alloc ?_ (by first | omega | (simp;done) | (simp;omega)) _) | (with_reducible refine Below.setCell ?_ (by first | omega | (simp;done) | (simp;omega)) _))),(by repeat (first | (with_reducible exact row_new' (by first | omega | (simp;done) | (simp;omega))) | (with_reducible refine Row.drew ?_) | (with_reducible refine Row.alloc ?_ _))),(by repeat (first | (with_reducible exact row_new' (by first | omega | (simp;done) | (simp;omega))) | (with_reducible refine Row.drew ?_) | (with_reducible refine Row.alloc ?_ _)))⟩ ?_
 clear hB
 rintro W1 ⟨hB,rp,rq⟩
 refine (hv _ hB).mono ?_
 rintro e W2 ⟨rfl,h1⟩
 replace hB:=hB.trans (h1.mono hB.size)
 replace rp:=Row.below rp h1
 replace rq:=Row.below rq h1
 clear h1
 go_wp2_with fail
 refine (acheck_true _).mono ?_
 rintro e W3 ⟨rfl,h1⟩
 replace hB:=hB.trans (h1.mono hB.size)
 replace rp:=Row.below rp h1
 replace rq:=Row.below rq h1
 clear h1
 have h':=h _ hB
 clear h hv
 go_wp2_with (go_at_fn F;refine h'.mono ?_;rintro e W4 ⟨rfl,h1⟩;replace hB:=hB.trans (h1.mono hB.size);replace rp:=Row.below rp h1;replace rq:=Row.below rq h1)
 refine leaves_cons (f := 100) (args:=#[.pointer (some ⟨w.heap.size,0,none⟩),.pointer (some ⟨w.heap.size+1,0,none⟩)]) (by simp) (by simp [go_sem]) ?_
 refine (afcatch _ _ a0 a [] _ _ _ _ _ _ _ (by omega) rp rq (he.below hB)).mono ?_
 rintro e u' w'' ⟨rfl,rfl,rp',rq',hb⟩
 replace hB:=hB.trans (hb w.heap.size (by omega) (by omega))
 obtain ⟨tp,dp0,dp1,dp2,dp3,dp4,_gp0,_gp1,_gp2,_gp3,_gp4⟩:=Row.cells5 rp'
 obtain ⟨tq,dq,_gq⟩:=Row.cells1 rq'
 simp only [Leaves,settle,List.dropWhile_nil]
 exact ⟨.tuple #[.agg #[.string ⟨#[]⟩,.string ⟨#[]⟩,.slice none 0 0,.string ⟨#[]⟩,.string ⟨#[]⟩],.int .i64 80],by simp [results,Tryz.results41, go_sem,dp0,dp1,dp2,dp3,dp4,dq],rfl,hB⟩
/-! compute[yardstick/api.Ratio] -/
end Go.Proofs.YtjpkfjmmmmfeeaaGreatDoor
namespace Go.Proofs.YtjpkfjmmmmfeeaaGreatDoor
open Go Go.RowKit Go.Lib Go.Shelf
theorem esqrt1_err (a0:Addr) (ba bp p:Nat) (a:Iv) (da:IDig 200 a) (hp:p≤30) (h0:a.lo<0) (w:World) (he:EnvE a0 w) (ra:IvRow w ba a) (rp:Row w bp (.cells #[.int .i64 (p:Int)] 3)) :
  Calls Tryz.prog 133 #[.pointer (some ⟨bp,0,none⟩),.pointer (some ⟨ba,0,none⟩)] w (FailsOk a0 w):=by
 have g1:cmpQ a.lo 0<0:=cmpQ_lt.2 h0
 have MZ:=fun W=>ezero W
 have MC:=fun W (h:Env W)=>qcompare a.lo 0 da.1 ⟨dig_small (by decide) (by decide),dig_small (by decide) (by decide)⟩ W h
 have MT:=fun W (h:EnvE a0 W)=>echeck_false W h
 have MG:=fun W=>egrid p hp W
 unfold Q at MZ MC
 unfold CmpOk at MC
 unfold FailsOk at MT
 clear h0 da
 generalize cmpQ a.lo 0=g at *
 have g2:decide (0≤g)=false:=decide_eq_false (by omega)
 unfold IvRow at *
 have KA:∀ X,Row X ba (.cells #[.string (S a.lo.num),.string (S (a.lo.den:Int)),.string (S a.hi.num),.string (S (a.hi.den:Int))] 53)→(X.cell? ⟨ba,0,none⟩=some (.string (S a.lo.num))∧X.cell? ⟨ba,1,none⟩=some (.string (S (a.lo.den:Int)))∧X.cell? ⟨ba,2,none⟩=some (.string (S a.hi.num))∧X.cell? ⟨ba,3,none⟩=some (.string (S (a.hi.den:Int)))):=fun X h=>IvRow.facts h
 have hB:Below w.heap.size w w:=Below.refl _ _
 obtain ⟨sa,ca0,ca1,ca2,ca3,fa0,fa1,fa2,fa3⟩:=Row.cells4 ra
 obtain ⟨sp,cp0,fp0⟩:=Row.cells1 rp
 generalize S (0:Rat).num=zn at *
 generalize S ((0:Rat).den:Int)=zd at *
 go_enter Tryz.func133, Tryz.ntmps133
 go_wp2_with fail
 have sB:=hB.size
 refine world_cut (fun X=>Below w.heap.size w X∧Row X ba (.cells #[.string (S a.lo.num),.string (S (a.lo.den:Int)),.string (S a.hi.num),.string (S (a.hi.den:Int))] 53)∧Row X bp (.cells #[.int .i64 (p:Int)] 3)∧Row X w.heap.size (.cells #[.string ⟨#[]⟩,.string ⟨#[]⟩,.string ⟨#[]⟩,.string ⟨#[]⟩] 53)) ⟨C1_hB,C3_ra,C3_rp,C2⟩ ?_
 clear ra
 clear sa ca0 ca1 ca2 ca3 fa0 fa1 fa2 fa3
 clear rp
 clear sp cp0 fp0
 clear hB sB
 rintro V1 ⟨hB,ra,rp,ro⟩
 obtain ⟨sa,ca0,ca1,ca2,ca3,fa0,fa1,fa2,fa3⟩:=Row.cells4 ra
 obtain ⟨sp,cp0,fp0⟩:=Row.cells1 rp
 obtain ⟨so,co0,co1,co2,co3,fo0,fo1,fo2,fo3⟩:=Row.cells4 ro
 refine (MG _).mono ?_
 rintro e W2 ⟨rfl,h1⟩
 clear sa ca0 ca1 ca2 ca3 fa0 fa1 fa2 fa3
 clear sp cp0 fp0
 clear so co0 co1 co2 co3 fo0 fo1 fo2 fo3
 replace hB:=hB.trans (h1.mono hB.size)
 replace ra:=Row.below ra h1
 replace rp:=Row.below rp h1
 replace ro:=Row.below ro h1
 clear h1
 obtain ⟨sa,ca0,ca1,ca2,ca3,fa0,fa1,fa2,fa3⟩:=Row.cells4 ra
 obtain ⟨sp,cp0,fp0⟩:=Row.cells1 rp
 obtain ⟨so,co0,co1,co2,co3,fo0,fo1,fo2,fo3⟩:=Row.cells4 ro
 go_wp2_with fail
 have sB:=hB.size
 refine wp_cut (fun X=>Below w.heap.size w X∧Row X ba (.cells #[.string (S a.lo.num),.string (S (a.lo.den:Int)),.string (S a.hi.num),.string (S (a.hi.den:Int))] 53)∧Row X bp (.cells #[.int .i64 (p:Int)] 3)∧Row X w.heap.size (.cells #[.string ⟨#[]⟩,.string ⟨#[]⟩,.string ⟨#[]⟩,.string ⟨#[]⟩] 53)∧Row X W2.heap.size (.cells #[.int .i64 (p:Int),.string (S (TT p))] 162)) ⟨C1_hB,C3_ra,C3_rp,C3_ro,C2⟩ ?_
 clear ra
 clear sa ca0 ca1 ca2 ca3 fa0 fa1 fa2 fa3
 clear rp
 clear sp cp0 fp0
 clear ro
 clear so co0 co1 co2 co3 fo0 fo1 fo2 fo3
 clear hB sB
 rintro V3 ⟨hB,ra,rp,ro,rg⟩
 obtain ⟨sa,ca0,ca1,ca2,ca3,fa0,fa1,fa2,fa3⟩:=Row.cells4 ra
 obtain ⟨sp,cp0,fp0⟩:=Row.cells1 rp
 obtain ⟨so,co0,co1,co2,co3,fo0,fo1,fo2,fo3⟩:=Row.cells4 ro
 obtain ⟨sg,cg0,cg1,fg0,fg1⟩:=Row.cells2 rg
 refine wp_region_held_drew (S:=fun X=>X.cell? ⟨ba,0,none⟩=some (.string (S a.lo.num))∧X.cell? ⟨ba,1,none⟩=some (.string (S (a.lo.den:Int)))∧X.cell? ⟨ba,2,none⟩=some (.string (S a.hi.num))∧X.cell? ⟨ba,3,none⟩=some (.string (S (a.hi.den:Int)))) (by kernel_rfl) (KA _ ra) (fun hHeld => ?_)
 refine wpAnyH_take (i:=0) (v := ?v0) rfl (by kernel_rfl) (by kernel_rfl) (by kernel_rfl) (fun _ _ _ h=>h) (Or.inl ⟨by rfl,?hy0⟩) hHeld ?more0
 case hy0=>(intro X hX;obtain ⟨x1,x2,x3,x4⟩:=hX;go_simp;try with_reducible rfl)
 try simp only [Act.put,List.setIfInBounds_toArray,List.set_cons_zero,List.set_cons_succ]
 refine wpAnyH_take (i:=1) (v := ?v1) rfl (by kernel_rfl) (by kernel_rfl) (by kernel_rfl) (fun _ _ _ h=>h) (Or.inl ⟨by rfl,?hy1⟩) hHeld ?more1
 case hy1=>(intro X hX;obtain ⟨x1,x2,x3,x4⟩:=hX;go_simp;try with_reducible rfl)
 try simp only [Act.put,List.setIfInBounds_toArray,List.set_cons_zero,List.set_cons_succ]
 refine wpAnyH_ready (rs:=[2]) (by kernel_rfl) (by simp) (AllReadyH.cons rfl (fun K hK => ?_) AllReadyH.nil)
 go_simp
 refine Calls.mono (MZ _) ?_
 rintro e1 Wa ⟨rfl,h1⟩
 try replace h1:=below_of_drew h1
 replace hB:=hB.trans (h1.mono hB.size)
 replace ra:=Row.below ra h1
 refine hK.out _ _ (KA _ ra) (fun _ => ?_)
 clear hK K
 try simp only [Act.put,List.setIfInBounds_toArray,List.set_cons_zero,List.set_cons_succ]
 refine wpAnyH_ready (rs:=[3]) (by kernel_rfl) (by simp) (AllReadyH.cons rfl (fun K hK => ?_) AllReadyH.nil)
 go_simp
 refine Calls.mono (MC _ (he.env.below hB)) ?_
 rintro e1 Wb ⟨rfl,h1⟩
 try replace h1:=below_of_drew h1
 replace hB:=hB.trans (h1.mono hB.size)
 replace ra:=Row.below ra h1
 refine hK.out _ _ (KA _ ra) (fun _ => ?_)
 clear hK K
 try simp only [Act.put,List.setIfInBounds_toArray,List.set_cons_zero,List.set_cons_succ]
 refine wpAnyH_ready (rs:=[4]) (by kernel_rfl) (by simp) (AllReadyH.cons rfl (fun K hK => ?_) AllReadyH.nil)
 go_simp
 refine hK.out _ _ (KA _ ra) (fun _ => ?_)
 clear hK K
 try simp only [Act.put,List.setIfInBounds_toArray,List.set_cons_zero,List.set_cons_succ]
 refine wpAnyH_ready (rs:=[5]) (by kernel_rfl) (by simp) (AllReadyH.cons rfl (fun K hK => ?_) AllReadyH.nil)
 go_simp
 refine Calls.mono (MT _ (he.below hB)) ?_
 rintro e1 Wc ⟨rfl,h1⟩
 try replace h1:=below_of_drew h1
 replace hB:=hB.trans (h1.mono hB.size)
 replace ra:=Row.below ra h1
 exact ⟨rfl,rfl,hB⟩
theorem esqrt_err {a0:Addr} {j:Nat} {a:Iv} {p:Nat} (da:IDig j a) (oa:a.Ok) (hp:p≤30) (hjp:j≤200) (h0:a.lo<0) (w:World) (he:EnvE a0 w) :
  Calls Tryz.prog 84 #[I a,.int .i64 (p:Int)] w (ivErr w):=by
 have egG:∀ args w,(callFunc 133 args).run Tryz.prog w = .ok (.enter 133 args) w:=enters_of Tryz.func133 (by kernel_rfl) rfl
 have egC:∀ args w,(callFunc 184 args).run Tryz.prog w = .ok (.enter 184 args) w:=enters_of Tryz.func184 (by kernel_rfl) rfl
 have hB:Below w.heap.size w w:=Below.refl _ _
 show Calls Tryz.prog 84 #[.agg #[.string (S a.lo.num),.string (S (a.lo.den:Int)),.string (S a.hi.num),.string (S (a.hi.den:Int))],.int .i64 (p:Int)] w _
 go_enter Tryz.func84, Tryz.ntmps84
 have hmf:∀ (fn:Fn) (first cap:Array Value) (w:World),(Instr.makeFunc fn first cap).run Tryz.prog w = .ok (.func fn first cap) w:=fun _ _ _ _=>rfl
 go_wp2_with fail
 have sB:=hB.size
 refine world_cut (fun X=>Below w.heap.size w X∧Row X w.heap.size (.cells #[.string (S a.lo.num),.string (S (a.lo.den:Int)),.string (S a.hi.num),.string (S (a.hi.den:Int))] 53)∧Row X (w.heap.size+1) (.cells #[.int .i64 (p:Int)] 3)∧Row X (w.heap.size+1+1) (.cells #[.string ⟨#[]⟩,.string ⟨#[]⟩,.string ⟨#[]⟩,.string ⟨#[]⟩] 53)∧Row X (w.heap.size+1+1+1) (.cells #[.string (S a.lo.num),.string (S (a.lo.den:Int)),.string (S a.hi.num),.string (S (a.hi.den:Int))] 53)) ⟨C1_hB,C2,C2,C2,C2⟩ ?_
 clear hB sB
 rintro V1 ⟨hB,ra,rp,ro,rs⟩
 obtain ⟨sa,ca0,ca1,ca2,ca3,fa0,fa1,fa2,fa3⟩:=Row.cells4 ra
 obtain ⟨sp,cp0,fp0⟩:=Row.cells1 rp
 obtain ⟨so,co0,co1,co2,co3,fo0,fo1,fo2,fo3⟩:=Row.cells4 ro
 obtain ⟨ss,cs0,cs1,cs2,cs3,fs0,fs1,fs2,fs3⟩:=Row.cells4 rs
 refine (ivcompute_err 133 _ _ 1 a0 _ (he.below hB) egG (fun W h=>contains1 184 egC _ a W (Row.below rs h) (fun W2 h2=>ivbad a (da.mono (by omega)) oa W2 ((he.env.below (hB.trans (h.mono hB.size))).below h2))) (fun W h=>esqrt1_err a0 _ _ p a (da.mono (by omega)) hp h0 W (he.below (hB.trans (h.mono hB.size))) (Row.below ra h) (Row.below rp h))).mono ?_
 rintro e W1 ⟨rfl,h1⟩
 clear sa ca0 ca1 ca2 ca3 fa0 fa1 fa2 fa3
 clear sp cp0 fp0
 clear so co0 co1 co2 co3 fo0 fo1 fo2 fo3
 clear ss cs0 cs1 cs2 cs3 fs0 fs1 fs2 fs3
 replace hB:=hB.trans (h1.mono hB.size)
 replace ra:=Row.below ra h1
 replace rp:=Row.below rp h1
 replace ro:=Row.below ro h1
 replace rs:=Row.below rs h1
 clear h1
 obtain ⟨sa,ca0,ca1,ca2,ca3,fa0,fa1,fa2,fa3⟩:=Row.cells4 ra
 obtain ⟨sp,cp0,fp0⟩:=Row.cells1 rp
 obtain ⟨so,co0,co1,co2,co3,fo0,fo1,fo2,fo3⟩:=Row.cells4 ro
 obtain ⟨ss,cs0,cs1,cs2,cs3,fs0,fs1,fs2,fs3⟩:=Row.cells4 rs
 clear hmf egG egC
 skip
 go_wp2
 have sB:=hB.size
 refine post_cut (fun X=>Below w.heap.size w X∧Row X w.heap.size (.cells #[.string (S a.lo.num),.string (S (a.lo.den:Int)),.string (S a.hi.num),.string (S (a.hi.den:Int))] 53)∧Row X (w.heap.size+1) (.cells #[.int .i64 (p:Int)] 3)∧Row X (w.heap.size+1+1) (.cells #[.string ⟨#[]⟩,.string ⟨#[]⟩,.string ⟨#[]⟩,.string ⟨#[]⟩] 53)∧Row X (w.heap.size+1+1+1) (.cells #[.string (S a.lo.num),.string (S (a.lo.den:Int)),.string (S a.hi.num),.string (S (a.hi.den:Int))] 53)) ⟨C1_hB,C3_ra,C3_rp,C3_ro,C3_rs⟩ ?_
 clear ra
 clear sa ca0 ca1 ca2 ca3 fa0 fa1 fa2 fa3
 clear rp
 clear sp cp0 fp0
 clear ro
 clear so co0 co1 co2 co3 fo0 fo1 fo2 fo3
 clear rs
 clear ss cs0 cs1 cs2 cs3 fs0 fs1 fs2 fs3
 clear hB sB
 rintro V2 ⟨hB,ra,rp,ro,rs⟩
 obtain ⟨sa,ca0,ca1,ca2,ca3,fa0,fa1,fa2,fa3⟩:=Row.cells4 ra
 obtain ⟨sp,cp0,fp0⟩:=Row.cells1 rp
 obtain ⟨so,co0,co1,co2,co3,fo0,fo1,fo2,fo3⟩:=Row.cells4 ro
 obtain ⟨ss,cs0,cs1,cs2,cs3,fs0,fs1,fs2,fs3⟩:=Row.cells4 rs
 refine bodyPost_ret (v := .tuple #[.agg #[.string ⟨#[]⟩,.string ⟨#[]⟩,.string ⟨#[]⟩,.string ⟨#[]⟩],.int .i64 50]) ?res rfl ⟨rfl,hB⟩
 case res=>simp [results,Tryz.results84, go_sem,co0,co1,co2,co3]
end Go.Proofs.YtjpkfjmmmmfeeaaGreatDoor
namespace Go.Proofs.YtjpkfjmmmmfeeaaGreatDoor
open Go Go.ChangeShapes Go.WideShapes Go.ChangeAt Go.RowKit Go.Lib Go.WideMaps Go.Joins
theorem gFails:Tryz.prog.globalNamed "yardstick/enclosure.errFails" = some 1 := by kernel_rfl
theorem gFailsType:(Tryz.prog.globals[1]?).map (·.type)=some 129 := by kernel_rfl
theorem starError : "*" ++ "errors.errorString" = "*errors.errorString" := by decide
theorem rowError (u:TypeId) (h:Tryz.prog.typeName? 3 u=some "*errors.errorString"):u = 283 :=
 typeName_ptr_named (nm := "errors.errorString") (by rw [starError];kernel_rfl) (by kernel_rfl) (by decide) u (by rw [starError];exact h)
end Go.Proofs.YtjpkfjmmmmfeeaaGreatDoor
