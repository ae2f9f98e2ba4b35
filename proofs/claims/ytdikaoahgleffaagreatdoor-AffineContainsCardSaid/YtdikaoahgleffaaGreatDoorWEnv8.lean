/-
 Chains of tactics that the walks use again and again, each behind the name of a theorem whose argument is automatic: the chain runs where the name stands. Package enclosure: check, and compute with its deferred closure: a result is handed back; a panic with errFails becomes ErrEnclosure. What the rows' listed variables give, and a world that meets the list; arrays of integers as arguments. The affine laws' list of package-level variables: what Env wants.
-/
import Derived.Carry
import Derived.Deep.DeepHandedRow
import Derived.Defers
import Derived.Lay
import Derived.Lib.LaidTab
import Derived.Lib.LaidU8
import Derived.Lib.SmallJoins
import Derived.MakeChecks
import Derived.OpenShut
import Derived.ProofKit
import Derived.Recover
import Derived.SevenTiedAt
import Derived.Stop.LaidErr
import Derived.Test.YtdikaoahgleffaaGreatDoorCards
import Derived.Test.YtdikaoahgleffaaGreatDoorTie
import Derived.WalkMore
import Derived.WideKeyArr2
import Derived.Test.YtdikaoahgleffaaGreatDoorWEIs
import Derived.Test.YtdikaoahgleffaaGreatDoorWQPlain6
import Derived.Test.YtdikaoahgleffaaGreatDoorWQTool
set_option linter.unusedSimpArgs false
set_option linter.unusedVariables false
set_option maxRecDepth 100000
set_option maxHeartbeats 1000000
namespace Go.Proofs.YtdikaoahgleffaaGreatDoor
open Go Go.RowKit Go.Lib
theorem C1_hB {P:Prop} (h:P:=by repeat (first | (with_reducible exact hB) | (with_reducible exact Below.refl _ _) | (with_reducible refine Below.drew ?_) | (with_reducible refine below_drewN ?_ _) | (with_reducible refine Below.alloc ?_ (by first | omega | (simp;done) | (simp;omega)) _) | (with_reducible refine Below.setCell ?_ (by first | omega | (simp;done) | (simp;omega)) _))):P:=h
theorem C2 {P:Prop} (h:P:=by repeat (first | (with_reducible exact row_new' (by first | omega | (simp;done) | (simp;omega))) | (with_reducible refine Row.drew ?_) | (with_reducible refine Row.drewN ?_ _) | (with_reducible refine Row.alloc ?_ _) | (with_reducible apply Row.set4) | (with_reducible apply Row.set4a) | (with_reducible apply Row.set4b) | (with_reducible apply Row.set2) | (with_reducible apply Row.set1) | (with_reducible refine Row.set_other ?_ _ (by first | omega | (simp;done) | (simp;omega))))):P:=h
theorem C3_rs {P:Prop} (h:P:=by repeat (first | (with_reducible exact rs) | (with_reducible exact row_new' (by first | omega | (simp;done) | (simp;omega))) | (with_reducible refine Row.drew ?_) | (with_reducible refine Row.drewN ?_ _) | (with_reducible refine Row.alloc ?_ _) | (with_reducible apply Row.set4) | (with_reducible apply Row.set4a) | (with_reducible apply Row.set4b) | (with_reducible apply Row.set2) | (with_reducible apply Row.set1) | (with_reducible refine Row.set_other ?_ _ (by first | omega | (simp;done) | (simp;omega))))):P:=h
theorem C3_rp {P:Prop} (h:P:=by repeat (first | (with_reducible exact rp) | (with_reducible exact row_new' (by first | omega | (simp;done) | (simp;omega))) | (with_reducible refine Row.drew ?_) | (with_reducible refine Row.drewN ?_ _) | (with_reducible refine Row.alloc ?_ _) | (with_reducible apply Row.set4) | (with_reducible apply Row.set4a) | (with_reducible apply Row.set4b) | (with_reducible apply Row.set2) | (with_reducible apply Row.set1) | (with_reducible refine Row.set_other ?_ _ (by first | omega | (simp;done) | (simp;omega))))):P:=h
theorem C3_ra {P:Prop} (h:P:=by repeat (first | (with_reducible exact ra) | (with_reducible exact row_new' (by first | omega | (simp;done) | (simp;omega))) | (with_reducible refine Row.drew ?_) | (with_reducible refine Row.drewN ?_ _) | (with_reducible refine Row.alloc ?_ _) | (with_reducible apply Row.set4) | (with_reducible apply Row.set4a) | (with_reducible apply Row.set4b) | (with_reducible apply Row.set2) | (with_reducible apply Row.set1) | (with_reducible refine Row.set_other ?_ _ (by first | omega | (simp;done) | (simp;omega))))):P:=h
theorem C3_ro {P:Prop} (h:P:=by repeat (first | (with_reducible exact ro) | (with_reducible exact row_new' (by first | omega | (simp;done) | (simp;omega))) | (with_reducible refine Row.drew ?_) | (with_reducible refine Row.drewN ?_ _) | (with_reducible refine Row.alloc ?_ _) | (with_reducible apply Row.set4) | (with_reducible apply Row.set4a) | (with_reducible apply Row.set4b) | (with_reducible apply Row.set2) | (with_reducible apply Row.set1) | (with_reducible refine Row.set_other ?_ _ (by first | omega | (simp;done) | (simp;omega))))):P:=h
theorem C3_rb {P:Prop} (h:P:=by repeat (first | (with_reducible exact rb) | (with_reducible exact row_new' (by first | omega | (simp;done) | (simp;omega))) | (with_reducible refine Row.drew ?_) | (with_reducible refine Row.drewN ?_ _) | (with_reducible refine Row.alloc ?_ _) | (with_reducible apply Row.set4) | (with_reducible apply Row.set4a) | (with_reducible apply Row.set4b) | (with_reducible apply Row.set2) | (with_reducible apply Row.set1) | (with_reducible refine Row.set_other ?_ _ (by first | omega | (simp;done) | (simp;omega))))):P:=h
theorem C3_rg {P:Prop} (h:P:=by repeat (first | (with_reducible exact rg) | (with_reducible exact row_new' (by first | omega | (simp;done) | (simp;omega))) | (with_reducible refine Row.drew ?_) | (with_reducible refine Row.drewN ?_ _) | (with_reducible refine Row.alloc ?_ _) | (with_reducible apply Row.set4) | (with_reducible apply Row.set4a) | (with_reducible apply Row.set4b) | (with_reducible apply Row.set2) | (with_reducible apply Row.set1) | (with_reducible refine Row.set_other ?_ _ (by first | omega | (simp;done) | (simp;omega))))):P:=h
theorem C3_rx {P:Prop} (h:P:=by repeat (first | (with_reducible exact rx) | (with_reducible exact row_new' (by first | omega | (simp;done) | (simp;omega))) | (with_reducible refine Row.drew ?_) | (with_reducible refine Row.drewN ?_ _) | (with_reducible refine Row.alloc ?_ _) | (with_reducible apply Row.set4) | (with_reducible apply Row.set4a) | (with_reducible apply Row.set4b) | (with_reducible apply Row.set2) | (with_reducible apply Row.set1) | (with_reducible refine Row.set_other ?_ _ (by first | omega | (simp;done) | (simp;omega))))):P:=h
theorem C3_rd {P:Prop} (h:P:=by repeat (first | (with_reducible exact rd) | (with_reducible exact row_new' (by first | omega | (simp;done) | (simp;omega))) | (with_reducible refine Row.drew ?_) | (with_reducible refine Row.drewN ?_ _) | (with_reducible refine Row.alloc ?_ _) | (with_reducible apply Row.set4) | (with_reducible apply Row.set4a) | (with_reducible apply Row.set4b) | (with_reducible apply Row.set2) | (with_reducible apply Row.set1) | (with_reducible refine Row.set_other ?_ _ (by first | omega | (simp;done) | (simp;omega))))):P:=h
theorem C3_rw {P:Prop} (h:P:=by repeat (first | (with_reducible exact rw) | (with_reducible exact row_new' (by first | omega | (simp;done) | (simp;omega))) | (with_reducible refine Row.drew ?_) | (with_reducible refine Row.drewN ?_ _) | (with_reducible refine Row.alloc ?_ _) | (with_reducible apply Row.set4) | (with_reducible apply Row.set4a) | (with_reducible apply Row.set4b) | (with_reducible apply Row.set2) | (with_reducible apply Row.set1) | (with_reducible refine Row.set_other ?_ _ (by first | omega | (simp;done) | (simp;omega))))):P:=h
theorem C3_rh {P:Prop} (h:P:=by repeat (first | (with_reducible exact rh) | (with_reducible exact row_new' (by first | omega | (simp;done) | (simp;omega))) | (with_reducible refine Row.drew ?_) | (with_reducible refine Row.drewN ?_ _) | (with_reducible refine Row.alloc ?_ _) | (with_reducible apply Row.set4) | (with_reducible apply Row.set4a) | (with_reducible apply Row.set4b) | (with_reducible apply Row.set2) | (with_reducible apply Row.set1) | (with_reducible refine Row.set_other ?_ _ (by first | omega | (simp;done) | (simp;omega))))):P:=h
theorem C3_rk {P:Prop} (h:P:=by repeat (first | (with_reducible exact rk) | (with_reducible exact row_new' (by first | omega | (simp;done) | (simp;omega))) | (with_reducible refine Row.drew ?_) | (with_reducible refine Row.drewN ?_ _) | (with_reducible refine Row.alloc ?_ _) | (with_reducible apply Row.set4) | (with_reducible apply Row.set4a) | (with_reducible apply Row.set4b) | (with_reducible apply Row.set2) | (with_reducible apply Row.set1) | (with_reducible refine Row.set_other ?_ _ (by first | omega | (simp;done) | (simp;omega))))):P:=h
theorem C3_rr {P:Prop} (h:P:=by repeat (first | (with_reducible exact rr) | (with_reducible exact row_new' (by first | omega | (simp;done) | (simp;omega))) | (with_reducible refine Row.drew ?_) | (with_reducible refine Row.drewN ?_ _) | (with_reducible refine Row.alloc ?_ _) | (with_reducible apply Row.set4) | (with_reducible apply Row.set4a) | (with_reducible apply Row.set4b) | (with_reducible apply Row.set2) | (with_reducible apply Row.set1) | (with_reducible refine Row.set_other ?_ _ (by first | omega | (simp;done) | (simp;omega))))):P:=h
theorem C4 {P:Prop} (h:P:=by repeat (first | (with_reducible exact row_new' (by first | omega | (simp;done) | (simp;omega))) | (with_reducible refine Row.drew ?_) | (with_reducible refine Row.alloc ?_ _))):P:=h
theorem C5_hB {P:Prop} (h:P:=by repeat (first | (with_reducible exact hB) | (with_reducible refine Below.drew ?_) | (with_reducible refine Below.alloc ?_ (by first | omega | (simp;done) | (simp;omega)) _) | (with_reducible refine Below.setCell ?_ (by first | omega | (simp;done) | (simp;omega)) _))):P:=h
theorem C6_rq {P:Prop} (h:P:=by repeat (first | (with_reducible exact rq) | (with_reducible exact row_new' (by first | omega | (simp;done) | (simp;omega))) | (with_reducible refine Row.drew ?_) | (with_reducible refine Row.alloc ?_ _) | (with_reducible apply Row.set4) | (with_reducible apply Row.set4a) | (with_reducible apply Row.set4b) | (with_reducible apply Row.set2) | (with_reducible apply Row.set1) | (with_reducible refine Row.set_other ?_ _ (by first | omega | (simp;done) | (simp;omega))))):P:=h
theorem C6_rp {P:Prop} (h:P:=by repeat (first | (with_reducible exact rp) | (with_reducible exact row_new' (by first | omega | (simp;done) | (simp;omega))) | (with_reducible refine Row.drew ?_) | (with_reducible refine Row.alloc ?_ _) | (with_reducible apply Row.set4) | (with_reducible apply Row.set4a) | (with_reducible apply Row.set4b) | (with_reducible apply Row.set2) | (with_reducible apply Row.set1) | (with_reducible refine Row.set_other ?_ _ (by first | omega | (simp;done) | (simp;omega))))):P:=h
end Go.Proofs.YtdikaoahgleffaaGreatDoor
namespace Go.Proofs.YtdikaoahgleffaaGreatDoor
open Go Go.RowKit Go.Lib Go.Shelf
def I (a:Iv):Value := .agg #[.string (S a.lo.num),.string (S (a.lo.den:Int)),.string (S a.hi.num),.string (S (a.hi.den:Int))]
structure EnvE (a:Addr) (w:World):Prop where
 env:Env w
 fails:w.cell? ⟨1, 0,none⟩=some (.iface 274 (.pointer (some a)))
theorem EnvE.below {a:Addr} {w w':World} (h:EnvE a w) (hb:Below w.heap.size w w'):EnvE a w':=⟨h.env.below hb,(hb.cell (World.block_lt_of_cell? _ _ h.fails)).trans h.fails⟩
def FailsOk (a:Addr) (w:World) (e:Ending) (w':World):Prop:=e = .panicked [{ v := .iface 274 (.pointer (some a)),recovered:=false }]∧Below w.heap.size w w'
theorem echeck_true (w:World):Calls Tryz.prog 134 #[.bool true] w (UnitOk w):=by
 go_enter Tryz.func134, Tryz.ntmps134;go_wp2;go_end0;exact ⟨rfl,Below.refl _ _⟩
theorem assert_err (v:Value) (w:World):(Instr.typeAssert (.iface 274 v) 20 138 true).run Tryz.prog w = .ok (.tuple #[.iface 274 v,.bool true]) w:=run_typeAssert_hasB Tryz.underlying138 (by kernel_rfl) v _ w
theorem assert_nil (w:World):(Instr.typeAssert .nilIface 20 138 true).run Tryz.prog w = .ok (.tuple #[.nilIface,.bool false]) w:=by kernel_rfl
/-! compute[yardstick/api.Interval] -/
def ivIs (Pr:Iv→Prop) (w:World) (e:Ending) (w':World):Prop:=∃ a,Pr a∧e = .returned (I a)∧Below w.heap.size w w'
def ivOk (Pr:Iv→Prop) (w:World) (e:Ending) (w':World):Prop:=∃ a,Pr a∧e = .returned (.tuple #[I a,.int .i64 0])∧Below w.heap.size w w'
theorem ividle (bp bq:Nat) (w:World) :
  CallsD Tryz.prog 172 #[.pointer (some ⟨bp,0,none⟩),.pointer (some ⟨bq,0,none⟩)] .returning w fun e u' w'=>e = .returned (.tuple #[])∧u' = .returning∧w'=w:=by
 have hta:=assert_nil;refine callsD_of_wpS Tryz.func172 rfl fun c₀ cs hu => ?_
 have e:(#[.pointer (some ⟨bp,0,none⟩),.pointer (some ⟨bq,0,none⟩)] ++ Array.replicate (Tryz.f172.ntmps - (#[.pointer (some ⟨bp,0,none⟩),.pointer (some ⟨bq,0,none⟩)]:Array Value).size) undef:Array Value)=#[.pointer (some ⟨bp,0,none⟩),.pointer (some ⟨bq,0,none⟩),undef,undef,undef,undef,undef,undef,undef,undef,undef,undef,undef,undef,undef,undef,undef]:=by kernel_rfl
 rw [e];apply wpS_seq;apply wpS_region;simp [wpOpsS,go_sem,recoverD,hu,Exit.thenS,hta];refine wpS_of_wp ?_;go_hide hQ;go_wp2;subst hQ
 cases c₀
 simp_all [bodyPostS,results,Tryz.results172]
theorem ivcompute_ok (F:FuncId) (caps:Array Value) (s n:Nat) (Pr:Iv→Prop) (w:World) (eg:∀ args w,(callFunc F args).run Tryz.prog w = .ok (.enter F args) w)
  (hv:∀ W,Below w.heap.size w W→Calls Tryz.prog 173 #[.slice (some ⟨s,0,none⟩) n n,.func (.func 174) #[] #[]] W (BoolOk false W))
  (h:∀ W,Below w.heap.size w W→Calls Tryz.prog F caps W (ivIs Pr W)) :
  Calls Tryz.prog 131 #[.func (.func F) #[] caps,.slice (some ⟨s,0,none⟩) n n] w (ivOk Pr w):=by
 have hmf:∀ (fn:Fn) (first cap:Array Value) (w:World),(Instr.makeFunc fn first cap).run Tryz.prog w = .ok (.func fn first cap) w:=fun _ _ _ _=>rfl
 have hB:Below w.heap.size w w:=Below.refl _ _;go_enter_defers Tryz.func131, Tryz.ntmps131;go_wp2_with fail;refine world_cut (fun X=>Below w.heap.size w X∧Row X w.heap.size oI0∧Row X (w.heap.size+1) (.cells #[.int .i64 0] 36)) ⟨C5_hB,C4,C4⟩ ?_;clear hB;rintro W1 ⟨hB,rp,rq⟩;refine (hv _ hB).mono ?_;rintro e W2 ⟨rfl,h1⟩;replace hB:=hB.trans (h1.mono hB.size);replace rp:=Row.below rp h1;replace rq:=Row.below rq h1;clear h1;go_wp2_with fail;refine (echeck_true _).mono ?_;rintro e W3 ⟨rfl,h1⟩;replace hB:=hB.trans (h1.mono hB.size);replace rp:=Row.below rp h1;replace rq:=Row.below rq h1;clear h1;have h':=h _ hB;clear h hv;go_wp2_with (go_at_fn F;refine h'.mono ?_;rintro e W4 ⟨a,pa,rfl,h1⟩;replace hB:=hB.trans (h1.mono hB.size);replace rp:=Row.below rp h1;replace rq:=Row.below rq h1;have sp:=Row.cells4 rp;obtain ⟨sq,cq,fq⟩:=Row.cells1 rq;unfold I);refine leaves_cons (f := 172) (args:=#[.pointer (some ⟨w.heap.size,0,none⟩),.pointer (some ⟨w.heap.size+1,0,none⟩)]) (by simp) (by simp [go_sem]) ?_;refine (ividle _ _ _).mono ?_;rintro e u' w'' ⟨rfl,rfl,hw⟩;have sB:=hB.size;obtain ⟨hB',rp',rq'⟩:Below w.heap.size w w''∧Row w'' w.heap.size (oI a.lo a.hi)∧Row w'' (w.heap.size+1) (.cells #[.int .i64 0] 36):=by
  rw [hw];exact ⟨C5_hB,C6_rp,C6_rq⟩
 clear hw;obtain ⟨tp,dp0,dp1,dp2,dp3,_gp0,_gp1,_gp2,_gp3⟩:=Row.cells4 rp';obtain ⟨tq,dq,_gq⟩:=Row.cells1 rq';simp only [Leaves,settle];exact ⟨.tuple #[.agg #[.string (S a.lo.num),.string (S (a.lo.den:Int)),.string (S a.hi.num),.string (S (a.hi.den:Int))],.int .i64 0],by simp [results,Tryz.results131, go_sem,dp0,dp1,dp2,dp3,dq],a,pa,rfl,hB'⟩
/-! compute[yardstick/api.Ratio] -/
end Go.Proofs.YtdikaoahgleffaaGreatDoor
namespace Go.Proofs.YtdikaoahgleffaaGreatDoor
open Go Go.ChangeShapes Go.WideShapes Go.ChangeAt Go.RowKit Go.Lib Go.WideMaps Go.Joins
theorem lawOwn:ownKnob Tryz.prog.godebug=none:=by kernel_rfl
theorem gPow:Tryz.prog.globalNamed "internal/strconv.uint64pow10" = some 4 := by kernel_rfl
theorem gPowType:(Tryz.prog.globals[4]?).map (·.type)=some 264 := by kernel_rfl
theorem cellsPow:Tryz.prog.cellsOf 264 = 20:=by kernel_rfl
theorem cellsU64:Tryz.prog.cellsOf 236 = 1:=by kernel_rfl
theorem gRange:Tryz.prog.globalNamed "strconv.ErrRange" = some 3 := by kernel_rfl
theorem gRangeType:(Tryz.prog.globals[3]?).map (·.type)=some 138 := by kernel_rfl
theorem gSyntax:Tryz.prog.globalNamed "strconv.ErrSyntax" = some 2 := by kernel_rfl
theorem gSyntaxType:(Tryz.prog.globals[2]?).map (·.type)=some 138 := by kernel_rfl
theorem gFails:Tryz.prog.globalNamed "yardstick/enclosure.errFails" = some 1 := by kernel_rfl
theorem gFailsType:(Tryz.prog.globals[1]?).map (·.type)=some 138 := by kernel_rfl
theorem starError : "*" ++ "errors.errorString" = "*errors.errorString" := by decide
theorem rowError (u:TypeId) (h:Tryz.prog.typeName? 3 u=some "*errors.errorString"):u = 274 :=
 typeName_ptr_named (nm := "errors.errorString") (by rw [starError];kernel_rfl) (by kernel_rfl) (by decide) u (by rw [starError];exact h)
theorem iface_of_reads {P:Program} {W:World} {n nm:String} {d:DataW Unit} {g:Nat} {ti:TypeId} {ms:Array (String × TypeId)} (h:VarReads P W n (.iface nm d)) (hg:P.globalNamed n=some g) (ht:(P.globals[g]?).map (·.type)=some ti) (hi:P.underlying ti=some (.interface ms)) :
  ∃ te pe,W.cell? ⟨g,0,none⟩=some (.iface te pe):=by
 obtain ⟨g',t',cs,fuel,p,hg',ht',hvar,hd⟩:=h;obtain rfl:=Option.some.inj (hg.symm.trans hg');obtain rfl:=Option.some.inj (ht.symm.trans ht');have hc:=World.var?_cell hg hvar 0;have hc':W.cell? ⟨g,0,none⟩=cs.toList[0]? := by rw [hc];simp
 generalize cs.toList=l at hd hc'
 cases fuel with
 | zero=>simp [DataW.trod] at hd
 | succ k =>
  rcases l with _ | ⟨v,_ | ⟨v',l⟩⟩
  ·simp [DataW.trod,hi] at hd
  ·cases v with
   | iface te pe=>exact ⟨te,pe,by simpa using hc'⟩
   | _=>simp [DataW.trod,hi] at hd
  ·simp [DataW.trod,hi] at hd
theorem isInt_wf {a:Int} (h:(Lit.int .i64 a).wf=true):IsInt a:=by
 have h2 : -9223372036854775808≤a∧a≤9223372036854775807:=by simpa [Lit.wf,IntKind.min,IntKind.max,IntKind.signed,IntKind.bits] using h
 exact h2
end Go.Proofs.YtdikaoahgleffaaGreatDoor
namespace Go.Proofs.YtdikaoahgleffaaGreatDoor
open Go Go.ChangeShapes Go.WideShapes Go.ChangeAt Go.RowKit Go.Lib Go.WideMaps Go.Joins
abbrev lawLaid8:List (String × DataW Unit):=Rows.affineContainsRow.laid
theorem env8_of_laid {W:World} (h:laidMetH Tryz.prog lawLaid8 W):Env W:=by
 rw [MakeChecks.laidMetH_plain _ _ _ (by kernel_rfl)] at h;refine ⟨?_,iface_of_reads (Lib.laidMet.reads h (.tail _ (.tail _ (.tail _ (.tail _ (.tail _ (.head _))))))) gSyntax gSyntaxType Tryz.underlying138, iface_of_reads (Lib.laidMet.reads h (.tail _ (.tail _ (.tail _ (.tail _ (.head _)))))) gRange gRangeType Tryz.underlying138⟩;exact Lib.tabIs_of_head (rest:=lawLaid8.drop 3) gPow gPowType Tryz.underlying264 Tryz.underlying236 cellsU64 cellsPow h.tail.tail
noncomputable def lawWorld8 (os:Os):World:=World.laidAll Tryz.prog os lawLaid8
theorem laid_met8 (os:Os) (args:Array Value):laidMetH Tryz.prog lawLaid8 ((lawWorld8 os).forCall (fun _ _=>0) ⟨#[],args,[]⟩).memory:=by
 rw [MakeChecks.laidMetH_plain _ _ _ (by kernel_rfl)];exact laidMet_laidAll _ (by kernel_rfl) (by kernel_rfl)
end Go.Proofs.YtdikaoahgleffaaGreatDoor
