/-
 What the base lacks.
-/
import Derived.Carry
import Derived.Deep.DeepHandedRow
import Derived.Defers
import Derived.LaidEql
import Derived.Laws.CopyRow
import Derived.Laws.IdiomCopy
import Derived.Lay
import Derived.Lib.LaidTab
import Derived.Lib.LaidU8
import Derived.Lib.SmallJoins
import Derived.MakeChecks
import Derived.Maps.AppendAt
import Derived.OneCell
import Derived.OpenShut
import Derived.ProofKit
import Derived.Recover
import Derived.RowKitTokens
import Derived.SevenTiedAt
import Derived.Stop.Asserts
import Derived.Stop.LaidErr
import Derived.Test.YtnokpldomlmamaaGreatDoorCards
import Derived.Test.YtnokpldomlmamaaGreatDoorProg
import Derived.Test.YtnokpldomlmamaaGreatDoorTie
import Derived.WalkKit
import Derived.WalkMore
import Derived.WideKeyArr2
import Derived.Test.YtnokpldomlmamaaGreatDoorKAAt
import Derived.Test.YtnokpldomlmamaaGreatDoorKAComb
import Derived.Test.YtnokpldomlmamaaGreatDoorKACov
import Derived.Test.YtnokpldomlmamaaGreatDoorKAExample
import Derived.Test.YtnokpldomlmamaaGreatDoorKAFind
import Derived.Test.YtnokpldomlmamaaGreatDoorKAFits
import Derived.Test.YtnokpldomlmamaaGreatDoorKAInverse
import Derived.Test.YtnokpldomlmamaaGreatDoorKALin
import Derived.Test.YtnokpldomlmamaaGreatDoorKALine
import Derived.Test.YtnokpldomlmamaaGreatDoorKALinear
import Derived.Test.YtnokpldomlmamaaGreatDoorKAMade
import Derived.Test.YtnokpldomlmamaaGreatDoorKAMadeW
import Derived.Test.YtnokpldomlmamaaGreatDoorKAMul
import Derived.Test.YtnokpldomlmamaaGreatDoorKARow
import Derived.Test.YtnokpldomlmamaaGreatDoorKASame
import Derived.Test.YtnokpldomlmamaaGreatDoorKAValid
import Derived.Test.YtnokpldomlmamaaGreatDoorKBuild
import Derived.Test.YtnokpldomlmamaaGreatDoorKCmp
import Derived.Test.YtnokpldomlmamaaGreatDoorKDPairs
import Derived.Test.YtnokpldomlmamaaGreatDoorKDPlain2
import Derived.Test.YtnokpldomlmamaaGreatDoorKDPlain3
import Derived.Test.YtnokpldomlmamaaGreatDoorKECompute
import Derived.Test.YtnokpldomlmamaaGreatDoorKEHull
import Derived.Test.YtnokpldomlmamaaGreatDoorKEOps
import Derived.Test.YtnokpldomlmamaaGreatDoorKERound
import Derived.Test.YtnokpldomlmamaaGreatDoorKESqrt
import Derived.Test.YtnokpldomlmamaaGreatDoorKEValid
import Derived.Test.YtnokpldomlmamaaGreatDoorKLaw1
import Derived.Test.YtnokpldomlmamaaGreatDoorKOver
import Derived.Test.YtnokpldomlmamaaGreatDoorKPlain3
import Derived.Test.YtnokpldomlmamaaGreatDoorKQCheck1
import Derived.Test.YtnokpldomlmamaaGreatDoorKQCmp
import Derived.Test.YtnokpldomlmamaaGreatDoorKQPlain6
import Derived.Test.YtnokpldomlmamaaGreatDoorKQuiet
import Derived.Test.YtnokpldomlmamaaGreatDoorKRQ
import Derived.Test.YtnokpldomlmamaaGreatDoorKRefO
import Derived.Test.YtnokpldomlmamaaGreatDoorKRefQ
import Derived.Test.YtnokpldomlmamaaGreatDoorKRound
import Derived.Test.YtnokpldomlmamaaGreatDoorKSane8
import Derived.Test.YtnokpldomlmamaaGreatDoorKSig
import Derived.Test.YtnokpldomlmamaaGreatDoorKStr3
import Derived.Test.YtnokpldomlmamaaGreatDoorKTail2
import Derived.Test.YtnokpldomlmamaaGreatDoorKTail3
import Derived.Test.YtnokpldomlmamaaGreatDoorKValid
set_option linter.unusedSimpArgs false
set_option linter.unusedVariables false
set_option maxRecDepth 100000
set_option maxHeartbeats 16000000
namespace Go.Proofs.YtnokpldomlmamaaGreatDoor
open Go Go.RowKit Go.Extern.Stop Go.Stop Go.Extern
theorem isTypeOf (v:Value) (w:World):(Extern.ReflectliteType.typeOf #[.iface 316 v]).run Tryz.prog w = .ok (.iface 250 (.agg #[.pointer (some ⟨10, 316, none⟩)])) w:=by kernel_rfl
theorem callComparable (w:World):(callFunc 324 #[.agg #[.pointer (some ⟨10, 316, none⟩)]]).run Tryz.prog w = .ok (.value (.bool true)) w:=by
 have h:=@run_callFunc_extern Tryz.prog 324 _ (Extern.ReflectliteType.method fun t=>do Extern.Rtype.noPackHeld "Comparable" t;pure (.bool (← typeInfo t).comparable)) Tryz.func324 (by kernel_rfl) (by kernel_rfl) (by kernel_rfl) (by kernel_rfl) #[.agg #[.pointer (some ⟨10, 316, none⟩)]] w
 rw [h]
 have c:((Extern.ReflectliteType.method fun t=>do Extern.Rtype.noPackHeld "Comparable" t;pure (.bool (← typeInfo t).comparable)) #[.agg #[.pointer (some ⟨10, 316, none⟩)]]).run Tryz.prog w = .ok (.bool true) w:=by kernel_rfl
 rw [c];rfl
-- 451: the number of types and a hundred, as the walk shows it; 10: the number of package-level variables: a new seat has other numbers
theorem isMethodComparable (v:Value) (w:World):(Go.method 451 250 v "Comparable").run Tryz.prog w = .ok (324, v) w:=by kernel_rfl
theorem is_comp:(Tryz.prog.info? 316).map (·.comparable)=some true:=by kernel_rfl
theorem is_size:(Tryz.prog.info? 318).map (·.size)=some 1:=by kernel_rfl
/-- errors.Is(x, x), x a pointer to an errors.errorString. -/
theorem is_same (a:Addr) (w:World) :
  Calls Tryz.prog 153 #[.iface 316 (.pointer (some a)),.iface 316 (.pointer (some a))] w fun e w'=>e = .returned (.bool true)∧w'=w:=by
 obtain ⟨i,hi,hcmp⟩:=Option.map_eq_some_iff.1 is_comp
 obtain ⟨j,hj,hjs⟩:=Option.map_eq_some_iff.1 is_size
 have h8:=@run_callFunc_extern Tryz.prog 214 _ Extern.ReflectliteType.typeOf Tryz.func214 (by kernel_rfl) (by kernel_rfl) (by kernel_rfl) (by kernel_rfl)
 have h32:=callComparable
 have tT:=isTypeOf
 have mR:=isMethodComparable
 have heq:=run_eql_iface_ptr_same (P:=Tryz.prog) w a Tryz.underlying169 Tryz.underlying316 hi hcmp hj
 go_enter Tryz.func153, Tryz.ntmps153
 go_wp2
 refine wp_loop_rounds 1 ?_
 rw [rounds_succ]
 go_wp2
 go_ret
 exact ⟨rfl,rfl⟩
end Go.Proofs.YtnokpldomlmamaaGreatDoor
namespace Go.Proofs.YtnokpldomlmamaaGreatDoor
open Go Go.RowKit Go.Lib Go.Shelf
def FailsOk (a:Addr) (w:World) (e:Ending) (w':World):Prop:=e = .panicked [{ v := .iface 316 (.pointer (some a)),recovered:=false }]∧Below w.heap.size w w'
theorem assert_err (v:Value) (w:World):(Instr.typeAssert (.iface 316 v) 20 169 true).run Tryz.prog w = .ok (.tuple #[.iface 316 v,.bool true]) w:=run_typeAssert_hasB Tryz.underlying169 (by kernel_rfl) v _ w
/-! compute[yardstick/api.Interval] -/
/-! compute[yardstick/api.Ratio] -/
end Go.Proofs.YtnokpldomlmamaaGreatDoor
namespace Go.Proofs.YtnokpldomlmamaaGreatDoor
open Go Go.RowKit Go.Lib Go.Shelf
theorem PRow.open {W:World} {s:Value} {l:List Pt} (h:PRow W s l):∃ p c,s = .slice p l.length c∧l.length≤c∧c≤maxLen∧PAt W p l:=by
 obtain ⟨_,⟨rfl,hn⟩ | ⟨g,cap,cur,rfl,_,hg,hc,hm,_,hx⟩⟩:=h
 ·exact ⟨none,0,by rw [hn],by omega,by unfold maxLen;omega,.inl ⟨List.length_eq_zero_iff.1 hn,.inl rfl⟩⟩
 ·exact ⟨some ⟨g,0,none⟩,cap,rfl,hc,hm,.inr ⟨g,cur,rfl,⟨(Array.getElem?_eq_some_iff.1 hg).1,hg⟩,hx⟩⟩
end Go.Proofs.YtnokpldomlmamaaGreatDoor
namespace Go.Proofs.YtnokpldomlmamaaGreatDoor
open Go Go.RowKit Go.Lib Go.Shelf
/-- A slice of terms in a block: all its cells at once. -/
theorem UAt.open {T:TypeId} {W:World} {p:Option Addr} {l:List RT} (h:UAt T W p l) (h0:0<l.length):∃ g cur,p=some ⟨g,0,none⟩∧Row W g (.cells cur T)
  ∧ ∀ i,i<l.length→cur[i * 3]? = some (.int .i64 (uD l i).s)∧cur[i * 3+1]? = some (.string (uD l i).a)∧cur[i * 3+2]? = some (.string (uD l i).b):=by
 rcases h with ⟨rfl,_⟩ | ⟨g,cur,rfl,hr,hx⟩
 ·simp at h0
 ·exact ⟨g,cur,rfl,hr,fun i hi=>by
   have key:∀ j,j<3→cur[i * 3+j]? = (uC (uD l i))[j]? := fun j hj=>by
    rw [← uCells_get hi j hj,← hx,List.getElem?_take,if_pos (by omega),Array.getElem?_toList]
   exact ⟨key 0 (by omega),key 1 (by omega),key 2 (by omega)⟩⟩
/-! Terms whose strings spell fractions. -/
end Go.Proofs.YtnokpldomlmamaaGreatDoor
namespace Go.Proofs.YtnokpldomlmamaaGreatDoor
open Go Go.RowKit Go.Lib Go.Shelf
theorem acheck_false {a0 a:Addr} (w:World) (he:EnvA a0 a w):Calls Tryz.prog 91 #[.bool false] w (FailsOk a w):=by
 have hg:=he.failsA
 go_enter Tryz.func91, Tryz.ntmps91
 go_wp2
 exact ⟨rfl,rfl,Below.refl _ _⟩
/-! compute[yardstick/api.Interval] -/
def avErr (w:World) (e:Ending) (w':World):Prop:=e = .returned (.tuple #[.agg #[.string ⟨#[]⟩,.string ⟨#[]⟩,.string ⟨#[]⟩,.string ⟨#[]⟩],.int .i64 80])∧Below w.heap.size w w'
theorem avcatch (bp bq:Nat) (a0 a:Addr) (older:List PanicEntry) (w:World) (v0 v1 v2 v3 x:Value) (hne:bp≠bq) (hp:Row w bp (.cells #[v0,v1,v2,v3] 30)) (hq:Row w bq (.cells #[x] 40)) (he:EnvA a0 a w) :
  CallsD Tryz.prog 159 #[.pointer (some ⟨bp,0,none⟩),.pointer (some ⟨bq,0,none⟩)] (.panicking ({ v := .iface 316 (.pointer (some a)),recovered:=false } :: older)) w fun e u' w' =>
   e = .returned (.tuple #[])∧u' = .panicking ({ v := .iface 316 (.pointer (some a)),recovered:=true } :: older)∧Row w' bp (.cells #[.string ⟨#[]⟩,.string ⟨#[]⟩,.string ⟨#[]⟩,.string ⟨#[]⟩] 30)∧Row w' bq (.cells #[.int .i64 80] 40)∧∀ n,n≤bp→n≤bq→Below n w w':=by
 have hta:=assert_err
 have hg:=he.failsA
 obtain ⟨sp,cp0,cp1,cp2,cp3,fp0,fp1,fp2,fp3⟩:=Row.cells4 hp
 obtain ⟨sq,cq,fq⟩:=Row.cells1 hq
 have hne':bq≠bp:=fun h=>hne h.symm
 have np:bp≠w.heap.size:=by omega
 have nq:bq≠w.heap.size:=by omega
 refine callsD_of_wpS Tryz.func159 rfl fun c₀ cs hu => ?_
 have e:(#[.pointer (some ⟨bp,0,none⟩),.pointer (some ⟨bq,0,none⟩)] ++ Array.replicate (Tryz.f159.ntmps - (#[.pointer (some ⟨bp,0,none⟩),.pointer (some ⟨bq,0,none⟩)]:Array Value).size) undef:Array Value)=#[.pointer (some ⟨bp,0,none⟩),.pointer (some ⟨bq,0,none⟩),undef,undef,undef,undef,undef,undef,undef,undef,undef,undef,undef,undef,undef,undef,undef]:=by kernel_rfl
 rw [e]
 apply wpS_seq
 apply wpS_region
 simp [wpOpsS,go_sem,recoverD,hu,Exit.thenS,hta]
 refine wpS_of_wp ?_
 go_hide hQ
 go_wp2_with fail
 refine (is_same a _).mono ?_
 rintro e' w' ⟨rfl,rfl⟩
 go_wp2
 subst hQ
 refine ⟨rfl,_,rfl,.tuple #[],by simp [results,Tryz.results159],rfl,rfl,?_,?_,fun n h1 h2 => ?_⟩
 ·repeat (first | (with_reducible exact hp) | (with_reducible exact row_new' (by first | omega | (simp;done) | (simp;omega))) | (with_reducible refine Row.drew ?_) | (with_reducible refine Row.alloc ?_ _) | (with_reducible apply Row.set5) | (with_reducible apply Row.set4) | (with_reducible apply Row.set4a) | (with_reducible apply Row.set4b) | (with_reducible apply Row.set2) | (with_reducible apply Row.set1) | (with_reducible refine Row.set_other ?_ _ (by first | omega | (simp;done) | (simp;omega))))
 ·repeat (first | (with_reducible exact hq) | (with_reducible exact row_new' (by first | omega | (simp;done) | (simp;omega))) | (with_reducible refine Row.drew ?_) | (with_reducible refine Row.alloc ?_ _) | (with_reducible apply Row.set5) | (with_reducible apply Row.set4) | (with_reducible apply Row.set4a) | (with_reducible apply Row.set4b) | (with_reducible apply Row.set2) | (with_reducible apply Row.set1) | (with_reducible refine Row.set_other ?_ _ (by first | omega | (simp;done) | (simp;omega))))
 ·repeat (first | (with_reducible exact Below.refl _ _) | (with_reducible refine Below.drew ?_) | (with_reducible refine Below.alloc ?_ (by first | omega | (simp;done) | (simp;omega)) _) | (with_reducible refine Below.setCell ?_ (by first | omega | (simp;done) | (simp;omega)) _))
/-- compute, where the function that it calls panics with errFails. -/
theorem avcompute_err (F:FuncId) (caps:Array Value) (s n:Nat) (a0 a:Addr) (w:World) (he:EnvA a0 a w) (eg:∀ args w,(callFunc F args).run Tryz.prog w = .ok (.enter F args) w)
  (hv:∀ W,Below w.heap.size w W→Calls Tryz.prog 154 #[.slice (some ⟨s,0,none⟩) n n,.func (.func 160) #[] #[]] W (BoolOk false W))
  (h:∀ W,Below w.heap.size w W→Calls Tryz.prog F caps W (FailsOk a W)) :
  Calls Tryz.prog 85 #[.func (.func F) #[] caps,.slice (some ⟨s,0,none⟩) n n] w (avErr w):=by
 have hmf:∀ (fn:Fn) (first cap:Array Value) (w:World),(Instr.makeFunc fn first cap).run Tryz.prog w = .ok (.func fn first cap) w:=fun _ _ _ _=>rfl
 have hB:Below w.heap.size w w:=Below.refl _ _
 go_enter_defers Tryz.func85, Tryz.ntmps85
 go_wp2_with fail
 refine world_cut (fun X=>Below w.heap.size w X∧Row X w.heap.size (.cells #[.string ⟨#[]⟩,.string ⟨#[]⟩,.string ⟨#[]⟩,.string ⟨#[]⟩] 30)∧Row X (w.heap.size+1) (.cells #[.int .i64 0] 40)) ⟨(by repeat (first | (with_reducible exact hB) | (with_reducible refine Below.drew ?_) | (with_reducible refine Below.alloc ?_ (by first | omega | (simp;done) | (simp;omega)) _) | (with_reducible refine Below.setCell ?_ (by first | omega | (simp;done) | (simp;omega)) _))),(by repeat (first | (with_reducible exact row_new' (by first | omega | (simp;done) | (simp;omega))) | (with_reducible refine Row.drew ?_) | (with_reducible refine Row.alloc ?_ _))),(by repeat (first | (with_reducible exact row_new' (by first | omega | (simp;done) | (simp;omega))) | (with_reducible refine Row.drew ?_) | (with_reducible refine Row.alloc ?_ _)))⟩ ?_
 clear hB
 rintro W1 ⟨hB,rp,rq⟩
 refine (hv _ hB).mono ?_
 rintro e W2 ⟨rfl,h1⟩
 replace hB:=hB.trans (h1.mono hB.size)
 replace rp:=Row.below rp h1
 replace rq:=Row.below rq h1
 clear h1
 go_wp2_with fail
 refine (acheck_true _).mono ?_
 rintro e W3 ⟨rfl,h1⟩
 replace hB:=hB.trans (h1.mono hB.size)
 replace rp:=Row.below rp h1
 replace rq:=Row.below rq h1
 clear h1
 have h':=h _ hB
 clear h hv
 go_wp2_with (go_at_fn F;refine h'.mono ?_;rintro e W4 ⟨rfl,h1⟩;replace hB:=hB.trans (h1.mono hB.size);replace rp:=Row.below rp h1;replace rq:=Row.below rq h1)
 refine leaves_cons (f := 159) (args:=#[.pointer (some ⟨w.heap.size,0,none⟩),.pointer (some ⟨w.heap.size+1,0,none⟩)]) (by simp) (by simp [go_sem]) ?_
 refine (avcatch _ _ a0 a [] _ _ _ _ _ _ (by omega) rp rq (he.below hB)).mono ?_
 rintro e u' w'' ⟨rfl,rfl,rp',rq',hb⟩
 replace hB:=hB.trans (hb w.heap.size (by omega) (by omega))
 obtain ⟨tp,dp0,dp1,dp2,dp3,_gp0,_gp1,_gp2,_gp3⟩:=Row.cells4 rp'
 obtain ⟨tq,dq,_gq⟩:=Row.cells1 rq'
 simp only [Leaves,settle,List.dropWhile_nil]
 exact ⟨.tuple #[.agg #[.string ⟨#[]⟩,.string ⟨#[]⟩,.string ⟨#[]⟩,.string ⟨#[]⟩],.int .i64 80],by simp [results,Tryz.results85, go_sem,dp0,dp1,dp2,dp3,dq],rfl,hB⟩
/-! compute[yardstick/api.Form] -/
def afErr (w:World) (e:Ending) (w':World):Prop:=e = .returned (.tuple #[.agg #[.string ⟨#[]⟩,.string ⟨#[]⟩,.slice none 0 0,.string ⟨#[]⟩,.string ⟨#[]⟩],.int .i64 80])∧Below w.heap.size w w'
theorem afcatch (bp bq:Nat) (a0 a:Addr) (older:List PanicEntry) (w:World) (v0 v1 v2 v3 v4 x:Value) (hne:bp≠bq) (hp:Row w bp (.cells #[v0,v1,v2,v3,v4] 58)) (hq:Row w bq (.cells #[x] 40)) (he:EnvA a0 a w) :
  CallsD Tryz.prog 152 #[.pointer (some ⟨bp,0,none⟩),.pointer (some ⟨bq,0,none⟩)] (.panicking ({ v := .iface 316 (.pointer (some a)),recovered:=false } :: older)) w fun e u' w' =>
   e = .returned (.tuple #[])∧u' = .panicking ({ v := .iface 316 (.pointer (some a)),recovered:=true } :: older)∧Row w' bp (.cells #[.string ⟨#[]⟩,.string ⟨#[]⟩,.slice none 0 0,.string ⟨#[]⟩,.string ⟨#[]⟩] 58)∧Row w' bq (.cells #[.int .i64 80] 40)∧∀ n,n≤bp→n≤bq→Below n w w':=by
 have hta:=assert_err
 have hg:=he.failsA
 obtain ⟨sp,cp0,cp1,cp2,cp3,cp4,fp0,fp1,fp2,fp3,fp4⟩:=Row.cells5 hp
 obtain ⟨sq,cq,fq⟩:=Row.cells1 hq
 have hne':bq≠bp:=fun h=>hne h.symm
 have np:bp≠w.heap.size:=by omega
 have nq:bq≠w.heap.size:=by omega
 refine callsD_of_wpS Tryz.func152 rfl fun c₀ cs hu => ?_
 have e:(#[.pointer (some ⟨bp,0,none⟩),.pointer (some ⟨bq,0,none⟩)] ++ Array.replicate (Tryz.f152.ntmps - (#[.pointer (some ⟨bp,0,none⟩),.pointer (some ⟨bq,0,none⟩)]:Array Value).size) undef:Array Value)=#[.pointer (some ⟨bp,0,none⟩),.pointer (some ⟨bq,0,none⟩),undef,undef,undef,undef,undef,undef,undef,undef,undef,undef,undef,undef,undef,undef,undef]:=by kernel_rfl
 rw [e]
 apply wpS_seq
 apply wpS_region
 simp [wpOpsS,go_sem,recoverD,hu,Exit.thenS,hta]
 refine wpS_of_wp ?_
 go_hide hQ
 go_wp2_with fail
 refine (is_same a _).mono ?_
 rintro e' w' ⟨rfl,rfl⟩
 go_wp2
 subst hQ
 refine ⟨rfl,_,rfl,.tuple #[],by simp [results,Tryz.results152],rfl,rfl,?_,?_,fun n h1 h2 => ?_⟩
 ·repeat (first | (with_reducible exact hp) | (with_reducible exact row_new' (by first | omega | (simp;done) | (simp;omega))) | (with_reducible refine Row.drew ?_) | (with_reducible refine Row.alloc ?_ _) | (with_reducible apply Row.set5) | (with_reducible apply Row.set4) | (with_reducible apply Row.set4a) | (with_reducible apply Row.set4b) | (with_reducible apply Row.set2) | (with_reducible apply Row.set1) | (with_reducible refine Row.set_other ?_ _ (by first | omega | (simp;done) | (simp;omega))))
 ·repeat (first | (with_reducible exact hq) | (with_reducible exact row_new' (by first | omega | (simp;done) | (simp;omega))) | (with_reducible refine Row.drew ?_) | (with_reducible refine Row.alloc ?_ _) | (with_reducible apply Row.set5) | (with_reducible apply Row.set4) | (with_reducible apply Row.set4a) | (with_reducible apply Row.set4b) | (with_reducible apply Row.set2) | (with_reducible apply Row.set1) | (with_reducible refine Row.set_other ?_ _ (by first | omega | (simp;done) | (simp;omega))))
 ·repeat (first | (with_reducible exact Below.refl _ _) | (with_reducible refine Below.drew ?_) | (with_reducible refine Below.alloc ?_ (by first | omega | (simp;done) | (simp;omega)) _) | (with_reducible refine Below.setCell ?_ (by first | omega | (simp;done) | (simp;omega)) _))
/-! compute[yardstick/api.Ratio] -/
def arErr (w:World) (e:Ending) (w':World):Prop:=e = .returned (.tuple #[.agg #[.string ⟨#[]⟩,.string ⟨#[]⟩],.int .i64 80])∧Below w.heap.size w w'
theorem arcatch (bp bq:Nat) (a0 a:Addr) (older:List PanicEntry) (w:World) (v0 v1 x:Value) (hne:bp≠bq) (hp:Row w bp (.cells #[v0,v1] 23)) (hq:Row w bq (.cells #[x] 40)) (he:EnvA a0 a w) :
  CallsD Tryz.prog 165 #[.pointer (some ⟨bp,0,none⟩),.pointer (some ⟨bq,0,none⟩)] (.panicking ({ v := .iface 316 (.pointer (some a)),recovered:=false } :: older)) w fun e u' w' =>
   e = .returned (.tuple #[])∧u' = .panicking ({ v := .iface 316 (.pointer (some a)),recovered:=true } :: older)∧Row w' bp (.cells #[.string ⟨#[]⟩,.string ⟨#[]⟩] 23)∧Row w' bq (.cells #[.int .i64 80] 40)∧∀ n,n≤bp→n≤bq→Below n w w':=by
 have hta:=assert_err
 have hg:=he.failsA
 obtain ⟨sp,cp0,cp1,fp0,fp1⟩:=Row.cells2 hp
 obtain ⟨sq,cq,fq⟩:=Row.cells1 hq
 have hne':bq≠bp:=fun h=>hne h.symm
 have np:bp≠w.heap.size:=by omega
 have nq:bq≠w.heap.size:=by omega
 refine callsD_of_wpS Tryz.func165 rfl fun c₀ cs hu => ?_
 have e:(#[.pointer (some ⟨bp,0,none⟩),.pointer (some ⟨bq,0,none⟩)] ++ Array.replicate (Tryz.f165.ntmps - (#[.pointer (some ⟨bp,0,none⟩),.pointer (some ⟨bq,0,none⟩)]:Array Value).size) undef:Array Value)=#[.pointer (some ⟨bp,0,none⟩),.pointer (some ⟨bq,0,none⟩),undef,undef,undef,undef,undef,undef,undef,undef,undef,undef,undef,undef,undef,undef,undef]:=by kernel_rfl
 rw [e]
 apply wpS_seq
 apply wpS_region
 simp [wpOpsS,go_sem,recoverD,hu,Exit.thenS,hta]
 refine wpS_of_wp ?_
 go_hide hQ
 go_wp2_with fail
 refine (is_same a _).mono ?_
 rintro e' w' ⟨rfl,rfl⟩
 go_wp2
 subst hQ
 refine ⟨rfl,_,rfl,.tuple #[],by simp [results,Tryz.results165],rfl,rfl,?_,?_,fun n h1 h2 => ?_⟩
 ·repeat (first | (with_reducible exact hp) | (with_reducible exact row_new' (by first | omega | (simp;done) | (simp;omega))) | (with_reducible refine Row.drew ?_) | (with_reducible refine Row.alloc ?_ _) | (with_reducible apply Row.set5) | (with_reducible apply Row.set4) | (with_reducible apply Row.set4a) | (with_reducible apply Row.set4b) | (with_reducible apply Row.set2) | (with_reducible apply Row.set1) | (with_reducible refine Row.set_other ?_ _ (by first | omega | (simp;done) | (simp;omega))))
 ·repeat (first | (with_reducible exact hq) | (with_reducible exact row_new' (by first | omega | (simp;done) | (simp;omega))) | (with_reducible refine Row.drew ?_) | (with_reducible refine Row.alloc ?_ _) | (with_reducible apply Row.set5) | (with_reducible apply Row.set4) | (with_reducible apply Row.set4a) | (with_reducible apply Row.set4b) | (with_reducible apply Row.set2) | (with_reducible apply Row.set1) | (with_reducible refine Row.set_other ?_ _ (by first | omega | (simp;done) | (simp;omega))))
 ·repeat (first | (with_reducible exact Below.refl _ _) | (with_reducible refine Below.drew ?_) | (with_reducible refine Below.alloc ?_ (by first | omega | (simp;done) | (simp;omega)) _) | (with_reducible refine Below.setCell ?_ (by first | omega | (simp;done) | (simp;omega)) _))
/-- compute, where the function that it calls panics with errFails. -/
theorem arcompute_err (F:FuncId) (caps:Array Value) (s n:Nat) (a0 a:Addr) (w:World) (he:EnvA a0 a w) (eg:∀ args w,(callFunc F args).run Tryz.prog w = .ok (.enter F args) w)
  (hv:∀ W,Below w.heap.size w W→Calls Tryz.prog 154 #[.slice (some ⟨s,0,none⟩) n n,.func (.func 166) #[] #[]] W (BoolOk false W))
  (h:∀ W,Below w.heap.size w W→Calls Tryz.prog F caps W (FailsOk a W)) :
  Calls Tryz.prog 96 #[.func (.func F) #[] caps,.slice (some ⟨s,0,none⟩) n n] w (arErr w):=by
 have hmf:∀ (fn:Fn) (first cap:Array Value) (w:World),(Instr.makeFunc fn first cap).run Tryz.prog w = .ok (.func fn first cap) w:=fun _ _ _ _=>rfl
 have hB:Below w.heap.size w w:=Below.refl _ _
 go_enter_defers Tryz.func96, Tryz.ntmps96
 go_wp2_with fail
 refine world_cut (fun X=>Below w.heap.size w X∧Row X w.heap.size (.cells #[.string ⟨#[]⟩,.string ⟨#[]⟩] 23)∧Row X (w.heap.size+1) (.cells #[.int .i64 0] 40)) ⟨(by repeat (first | (with_reducible exact hB) | (with_reducible refine Below.drew ?_) | (with_reducible refine Below.alloc ?_ (by first | omega | (simp;done) | (simp;omega)) _) | (with_reducible refine Below.setCell ?_ (by first | omega | (simp;done) | (simp;omega)) _))),(by repeat (first | (with_reducible exact row_new' (by first | omega | (simp;done) | (simp;omega))) | (with_reducible refine Row.drew ?_) | (with_reducible refine Row.alloc ?_ _))),(by repeat (first | (with_reducible exact row_new' (by first | omega | (simp;done) | (simp;omega))) | (with_reducible refine Row.drew ?_) | (with_reducible refine Row.alloc ?_ _)))⟩ ?_
 clear hB
 rintro W1 ⟨hB,rp,rq⟩
 refine (hv _ hB).mono ?_
 rintro e W2 ⟨rfl,h1⟩
 replace hB:=hB.trans (h1.mono hB.size)
 replace rp:=Row.below rp h1
 replace rq:=Row.below rq h1
 clear h1
 go_wp2_with fail
 refine (acheck_true _).mono ?_
 rintro e W3 ⟨rfl,h1⟩
 replace hB:=hB.trans (h1.mono hB.size)
 replace rp:=Row.below rp h1
 replace rq:=Row.below rq h1
 clear h1
 have h':=h _ hB
 clear h hv
 go_wp2_with (go_at_fn F;refine h'.mono ?_;rintro e W4 ⟨rfl,h1⟩;replace hB:=hB.trans (h1.mono hB.size);replace rp:=Row.below rp h1;replace rq:=Row.below rq h1)
 refine leaves_cons (f := 165) (args:=#[.pointer (some ⟨w.heap.size,0,none⟩),.pointer (some ⟨w.heap.size+1,0,none⟩)]) (by simp) (by simp [go_sem]) ?_
 refine (arcatch _ _ a0 a [] _ _ _ _ (by omega) rp rq (he.below hB)).mono ?_
 rintro e u' w'' ⟨rfl,rfl,rp',rq',hb⟩
 replace hB:=hB.trans (hb w.heap.size (by omega) (by omega))
 obtain ⟨tp,dp0,dp1,_gp0,_gp1⟩:=Row.cells2 rp'
 obtain ⟨tq,dq,_gq⟩:=Row.cells1 rq'
 simp only [Leaves,settle,List.dropWhile_nil]
 exact ⟨.tuple #[.agg #[.string ⟨#[]⟩,.string ⟨#[]⟩],.int .i64 80],by simp [results,Tryz.results96, go_sem,dp0,dp1,dq],rfl,hB⟩
end Go.Proofs.YtnokpldomlmamaaGreatDoor
namespace Go.Proofs.YtnokpldomlmamaaGreatDoor
open Go Go.ChangeShapes Go.WideShapes Go.ChangeAt Go.RowKit Go.Lib Go.WideMaps Go.Joins
theorem lawOwn:ownKnob Tryz.prog.godebug=none:=by kernel_rfl
theorem gFails:Tryz.prog.globalNamed "yardstick/enclosure.errFails" = some 1 := by kernel_rfl
theorem gFailsType:(Tryz.prog.globals[1]?).map (·.type)=some 169 := by kernel_rfl
theorem starError : "*" ++ "errors.errorString" = "*errors.errorString" := by decide
theorem rowError (u:TypeId) (h:Tryz.prog.typeName? 3 u=some "*errors.errorString"):u = 316 :=
 typeName_ptr_named (nm := "errors.errorString") (by rw [starError];kernel_rfl) (by kernel_rfl) (by decide) u (by rw [starError];exact h)
end Go.Proofs.YtnokpldomlmamaaGreatDoor
namespace Go.Proofs.YtnokpldomlmamaaGreatDoor
open Go Go.RowKit Go.Lib Go.Shelf
theorem S_len (z:Int):(S z).size=(if z<0 then 1 else 0)+(decDigits z.natAbs).length:=by
 have h1:(S z).size=(itoa z).length:=by unfold S ByteArray.size;simp
 rw [h1]
 rcases Int.lt_or_le z 0 with h | h
 ·obtain ⟨u,rfl⟩:∃ u:Nat,z = -(u:Int):=⟨z.natAbs,by omega⟩
  rw [itoa_ng u (by omega),if_pos h];simp;omega
 ·obtain ⟨u,rfl⟩:∃ u:Nat,z=(u:Int):=⟨z.natAbs,by omega⟩
  rw [itoa_nn,if_neg (by omega)];simp
end Go.Proofs.YtnokpldomlmamaaGreatDoor
namespace Go.Proofs.YtnokpldomlmamaaGreatDoor
open Go Go.RowKit Go.Lib Go.Shelf
theorem is_eqS {a:ByteArray} {x:Int} (h:Is a x):a=S x:=by
 obtain ⟨⟨d⟩⟩:=a
 unfold S
 have h':d=itoa x:=h
 rw [h']
theorem Is.len {a:ByteArray} {x:Int} (h:Is a x):a.size=(if x<0 then 1 else 0)+(decDigits x.natAbs).length:=by rw [is_eqS h];exact S_len x
theorem qnot_d {a b:ByteArray} {g:Int} (hg:g≠1) (V1:∀ W,Calls Tryz.prog 141 #[.string a] W (BoolOk true W)) (V2:∀ W,Calls Tryz.prog 141 #[.string b] W (BoolOk true W)) (V3:∀ W,Calls Tryz.prog 134 #[.string b,.string ⟨#[48]⟩] W (CmpOk 1 W)) (V4:∀ W,Env W→Calls Tryz.prog 142 #[.string a,.string b] W (StrOk g W)) (w:World) (he:Env w):Calls Tryz.prog 58 #[.agg #[.string a,.string b]] w (BoolOk false w):=by
 have hB:Below w.heap.size w w:=Below.refl _ _
 have M1:=V1
 have M2:=V2
 have M3:=V3
 have M4:=V4
 unfold BoolOk at *
 unfold CmpOk at M3
 unfold StrOk at M4
 have e1:((S g).toList == [49])=false:=by have:=S_ne hg;rw [S_list 1,show itoa 1=[49] by decide +kernel] at this;exact this
 generalize S g=sg at *
 clear V1 V2 V3 V4 hg
 go_enter Tryz.func58, Tryz.ntmps58
 go_wp2_with fail
 have sB:=hB.size
 refine world_cut (fun X=>Below w.heap.size w X∧Row X w.heap.size (.cells #[.string a,.string b] 23)) ⟨BW,RWh⟩ ?_
 clear hB sB
 rintro V1 ⟨hB,rb0⟩
 obtain ⟨sb0,cb00,cb01⟩:=RF2 rb0
 refine (M1 _).mono ?_
 rintro e W2 ⟨rfl,h1⟩
 have st:=St1 hB h1 rb0;clear hB h1 rb0 sb0 cb00 cb01
 obtain ⟨hB,rb0⟩:=st
 obtain ⟨sb0,cb00,cb01⟩:=RF2 rb0
 go_wp2_with fail
 refine (M2 _).mono ?_
 rintro e W3 ⟨rfl,h1⟩
 have st:=St1 hB h1 rb0;clear hB h1 rb0 sb0 cb00 cb01
 obtain ⟨hB,rb0⟩:=st
 obtain ⟨sb0,cb00,cb01⟩:=RF2 rb0
 go_wp2_with fail
 refine (M3 _).mono ?_
 rintro e W4 ⟨rfl,h1⟩
 have st:=St1 hB h1 rb0;clear hB h1 rb0 sb0 cb00 cb01
 obtain ⟨hB,rb0⟩:=st
 obtain ⟨sb0,cb00,cb01⟩:=RF2 rb0
 go_wp2_with fail
 clear rb0
 clear sb0 cb00 cb01
 refine (M4 _ (he.below hB)).mono ?_
 rintro e W5 ⟨rfl,h1⟩
 have st:=St0 hB h1;clear hB h1
 have hB:=st;clear st
 go_wp2
 go_ret
 exact ⟨rfl,hB⟩
/-- Both say no. -/
def NotRat (a b:ByteArray):Prop:=∀ W,Env W→Calls Tryz.prog 58 #[.agg #[.string a,.string b]] W (BoolOk false W)∧Calls Tryz.prog 61 #[.agg #[.string a,.string b]] W (BoolOk false W)
theorem NotRat.prog {a b:ByteArray} (h:NotRat a b) (W:World) (he:Env W):Calls Tryz.prog 58 #[.agg #[.string a,.string b]] W (BoolOk false W):=(h W he).1
end Go.Proofs.YtnokpldomlmamaaGreatDoor
namespace Go.Proofs.YtnokpldomlmamaaGreatDoor
open Go Go.ChangeShapes Go.WideShapes Go.ChangeAt Go.RowKit Go.Lib Go.WideMaps Go.Joins
theorem gFailsA:Tryz.prog.globalNamed "yardstick/affine.errFails" = some 0 := by kernel_rfl
theorem gFailsAType:(Tryz.prog.globals[0]?).map (·.type)=some 169 := by kernel_rfl
theorem envA_of_laid {W:World} (h:laidMetH Tryz.prog lawLaid8 W):∃ a0 a1,EnvA a0 a1 W:=by
 have env:=env8_of_laid h
 rw [MakeChecks.laidMetH_plain _ _ _ (by kernel_rfl)] at h
 obtain ⟨a,s,hv,_⟩:=laid_sentinel (r:=lawLaid8.drop 7) h.tail.tail.tail.tail.tail.tail gFails gFailsType Tryz.underlying169 rowError Tryz.underlying316 Tryz.underlying318 rfl rfl Tryz.underlying9 (by kernel_rfl) (by kernel_rfl)
 obtain ⟨b,t,hw,_⟩:=laid_sentinel (r:=lawLaid8.drop 8) h.tail.tail.tail.tail.tail.tail.tail gFailsA gFailsAType Tryz.underlying169 rowError Tryz.underlying316 Tryz.underlying318 rfl rfl Tryz.underlying9 (by kernel_rfl) (by kernel_rfl)
 refine ⟨a,b,⟨⟨env,?_⟩,?_⟩⟩
 ·have:=World.var?_cell gFails hv 0
  simpa using this
 ·have:=World.var?_cell gFailsA hw 0
  simpa using this
end Go.Proofs.YtnokpldomlmamaaGreatDoor
