/-
 Words for walks whose variables are blocks of cells: what a block holds, from world to world. Chains of tactics that the walks use again and again, each behind the name of a theorem whose argument is automatic: the chain runs where the name stands. Package enclosure: check, and compute with its deferred closure: a result is handed back; a panic with errFails becomes ErrEnclosure. What the eight operations of the laws' calls hand back, as a relation; that results narrow with their operands, their digits, and the bounds that Rounds' differences need. Plain: no program in sight.
-/
import Derived.Defers
import Derived.LaidEql
import Derived.Recover
import Derived.RowKitTokens
import Derived.Stop.Asserts
import Derived.Test.YtjpkfjmmmmfeeaaGreatDoorProg
import Derived.WalkKit
import Derived.WalkMore
import Derived.Test.YtjpkfjmmmmfeeaaGreatDoorKQPlain6
import Derived.Test.YtjpkfjmmmmfeeaaGreatDoorKQSum
set_option maxRecDepth 100000
set_option maxHeartbeats 1000000
namespace Go.Proofs.YtjpkfjmmmmfeeaaGreatDoor
open Go Go.RowKit Go.Lib Go.Shelf
/-- A call at a world of which only some facts are kept. -/
theorem world_cut {P:Program} {F:FuncId} {args:Array Value} {w:World} {R:Ending→World→Prop} (p:World→Prop) (h0:p w) (h:∀ W,p W→Calls P F args W R):Calls P F args w R:=h w h0
theorem row_new' {w:World} {b:Nat} {o:Obj} (h:b=w.heap.size):Row (w.alloc o) b o:=h ▸ row_new w o
theorem Row.drew {W:World} {b:Nat} {o:Obj} (h:Row W b o):Row W.drew b o:=h
theorem Row.drewN {W:World} {b:Nat} {o:Obj} (h:Row W b o) (k:Nat):Row (W.drewN k) b o:=h
theorem Row.set_other {W:World} {b c i:Nat} {o:Obj} (h:Row W b o) (v:Value) (hne:b≠c):Row (W.setCell ⟨c,i,none⟩ v) b o :=
 ⟨by simpa using h.1,by rw [Below.heap_setCell _ _ _ _ hne];exact h.2⟩
theorem Row.set_same {W:World} {b i:Nat} {vs vs':Array Value} {v:Value} {t:TypeId} (h:Row W b (.cells vs t)) (e:vs.setIfInBounds i v=vs'):Row (W.setCell ⟨b,i,none⟩ v) b (.cells vs' t) :=
 ⟨by simpa using h.1,by simp [World.setCell,Array.getElem?_modify,h.2,e]⟩
theorem Row.set2 {W:World} {b:Nat} {v0 v1 u0 u1:Value} {t:TypeId} (h:Row W b (.cells #[v0,v1] t)):Row ((W.setCell ⟨b,0,none⟩ u0).setCell ⟨b,1,none⟩ u1) b (.cells #[u0,u1] t):=(h.set_same rfl).set_same rfl
theorem Row.set4 {W:World} {b:Nat} {v0 v1 v2 v3 u0 u1 u2 u3:Value} {t:TypeId} (h:Row W b (.cells #[v0,v1,v2,v3] t)) :
  Row ((((W.setCell ⟨b,0,none⟩ u0).setCell ⟨b,1,none⟩ u1).setCell ⟨b,2,none⟩ u2).setCell ⟨b,3,none⟩ u3) b (.cells #[u0,u1,u2,u3] t):=(((h.set_same rfl).set_same rfl).set_same rfl).set_same rfl
theorem Row.set1 {W:World} {b:Nat} {v0 u0:Value} {t:TypeId} (h:Row W b (.cells #[v0] t)):Row (W.setCell ⟨b,0,none⟩ u0) b (.cells #[u0] t):=h.set_same rfl
theorem Row.set4a {W:World} {b:Nat} {v0 v1 v2 v3 u0 u1:Value} {t:TypeId} (h:Row W b (.cells #[v0,v1,v2,v3] t)):Row ((W.setCell ⟨b,0,none⟩ u0).setCell ⟨b,1,none⟩ u1) b (.cells #[u0,u1,v2,v3] t):=(h.set_same rfl).set_same rfl
theorem Row.set4b {W:World} {b:Nat} {v0 v1 v2 v3 u2 u3:Value} {t:TypeId} (h:Row W b (.cells #[v0,v1,v2,v3] t)):Row ((W.setCell ⟨b,2,none⟩ u2).setCell ⟨b,3,none⟩ u3) b (.cells #[v0,v1,u2,u3] t):=(h.set_same rfl).set_same rfl
theorem post_cut {P:Program} {fn:Func} {R:Ending→World→Prop} {ex:Exit} {a:Act} {w:World} (p:World→Prop) (h0:p w) (h:∀ W,p W→bodyPost P fn R ex a W):bodyPost P fn R ex a w:=h w h0
theorem wp_cut {P:Program} {c:Code} {Q:Exit→Act→World→Prop} {a:Act} {w:World} (p:World→Prop) (h0:p w) (h:∀ W,p W→c.wp P Q a W):c.wp P Q a w:=h w h0
theorem Row.cells1 {W:World} {b:Nat} {v0:Value} {t:TypeId} (h:Row W b (.cells #[v0] t)):b<W.heap.size∧W.cell? ⟨b,0,none⟩=some v0∧W.frozen? ⟨b,0,none⟩=false:=⟨h.1,one_facts h.2⟩
theorem Row.cells2 {W:World} {b:Nat} {v0 v1:Value} {t:TypeId} (h:Row W b (.cells #[v0,v1] t)) :
  b<W.heap.size∧W.cell? ⟨b,0,none⟩=some v0∧W.cell? ⟨b,1,none⟩=some v1∧W.frozen? ⟨b,0,none⟩=false∧W.frozen? ⟨b,1,none⟩=false:=⟨h.1,two_facts h.2⟩
theorem Row.cells4 {W:World} {b:Nat} {v0 v1 v2 v3:Value} {t:TypeId} (h:Row W b (.cells #[v0,v1,v2,v3] t)) :
  b<W.heap.size∧W.cell? ⟨b,0,none⟩=some v0∧W.cell? ⟨b,1,none⟩=some v1∧W.cell? ⟨b,2,none⟩=some v2∧W.cell? ⟨b,3,none⟩=some v3
   ∧ W.frozen? ⟨b,0,none⟩=false∧W.frozen? ⟨b,1,none⟩=false∧W.frozen? ⟨b,2,none⟩=false∧W.frozen? ⟨b,3,none⟩=false :=
 ⟨h.1,cell_of_row _ _ 0 _ _ _ h.2,cell_of_row _ _ 1 _ _ _ h.2,cell_of_row _ _ 2 _ _ _ h.2,cell_of_row _ _ 3 _ _ _ h.2,frozen_of_row _ _ 0 _ _ h.2,frozen_of_row _ _ 1 _ _ h.2,frozen_of_row _ _ 2 _ _ h.2,frozen_of_row _ _ 3 _ _ h.2⟩
end Go.Proofs.YtjpkfjmmmmfeeaaGreatDoor
namespace Go.Proofs.YtjpkfjmmmmfeeaaGreatDoor
open Go Go.RowKit Go.Lib
theorem C1_hB {P:Prop} (h:P:=by repeat (first | (with_reducible exact hB) | (with_reducible exact Below.refl _ _) | (with_reducible refine Below.drew ?_) | (with_reducible refine below_drewN ?_ _) | (with_reducible refine Below.alloc ?_ (by first | omega | (simp;done) | (simp;omega)) _) | (with_reducible refine Below.setCell ?_ (by first | omega | (simp;done) | (simp;omega)) _))):P:=h
theorem C2 {P:Prop} (h:P:=by repeat (first | (with_reducible exact row_new' (by first | omega | (simp;done) | (simp;omega))) | (with_reducible refine Row.drew ?_) | (with_reducible refine Row.drewN ?_ _) | (with_reducible refine Row.alloc ?_ _) | (with_reducible apply Row.set4) | (with_reducible apply Row.set4a) | (with_reducible apply Row.set4b) | (with_reducible apply Row.set2) | (with_reducible apply Row.set1) | (with_reducible refine Row.set_other ?_ _ (by first | omega | (simp;done) | (simp;omega))))):P:=h
theorem C3_rs {P:Prop} (h:P:=by repeat (first | (with_reducible exact rs) | (with_reducible exact row_new' (by first | omega | (simp;done) | (simp;omega))) | (with_reducible refine Row.drew ?_) | (with_reducible refine Row.drewN ?_ _) | (with_reducible refine Row.alloc ?_ _) | (with_reducible apply Row.set4) | (with_reducible apply Row.set4a) | (with_reducible apply Row.set4b) | (with_reducible apply Row.set2) | (with_reducible apply Row.set1) | (with_reducible refine Row.set_other ?_ _ (by first | omega | (simp;done) | (simp;omega))))):P:=h
theorem C3_rp {P:Prop} (h:P:=by repeat (first | (with_reducible exact rp) | (with_reducible exact row_new' (by first | omega | (simp;done) | (simp;omega))) | (with_reducible refine Row.drew ?_) | (with_reducible refine Row.drewN ?_ _) | (with_reducible refine Row.alloc ?_ _) | (with_reducible apply Row.set4) | (with_reducible apply Row.set4a) | (with_reducible apply Row.set4b) | (with_reducible apply Row.set2) | (with_reducible apply Row.set1) | (with_reducible refine Row.set_other ?_ _ (by first | omega | (simp;done) | (simp;omega))))):P:=h
theorem C3_ra {P:Prop} (h:P:=by repeat (first | (with_reducible exact ra) | (with_reducible exact row_new' (by first | omega | (simp;done) | (simp;omega))) | (with_reducible refine Row.drew ?_) | (with_reducible refine Row.drewN ?_ _) | (with_reducible refine Row.alloc ?_ _) | (with_reducible apply Row.set4) | (with_reducible apply Row.set4a) | (with_reducible apply Row.set4b) | (with_reducible apply Row.set2) | (with_reducible apply Row.set1) | (with_reducible refine Row.set_other ?_ _ (by first | omega | (simp;done) | (simp;omega))))):P:=h
theorem C3_ro {P:Prop} (h:P:=by repeat (first | (with_reducible exact ro) | (with_reducible exact row_new' (by first | omega | (simp;done) | (simp;omega))) | (with_reducible refine Row.drew ?_) | (with_reducible refine Row.drewN ?_ _) | (with_reducible refine Row.alloc ?_ _) | (with_reducible apply Row.set4) | (with_reducible apply Row.set4a) | (with_reducible apply Row.set4b) | (with_reducible apply Row.set2) | (with_reducible apply Row.set1) | (with_reducible refine Row.set_other ?_ _ (by first | omega | (simp;done) | (simp;omega))))):P:=h
theorem C3_rb {P:Prop} (h:P:=by repeat (first | (with_reducible exact rb) | (with_reducible exact row_new' (by first | omega | (simp;done) | (simp;omega))) | (with_reducible refine Row.drew ?_) | (with_reducible refine Row.drewN ?_ _) | (with_reducible refine Row.alloc ?_ _) | (with_reducible apply Row.set4) | (with_reducible apply Row.set4a) | (with_reducible apply Row.set4b) | (with_reducible apply Row.set2) | (with_reducible apply Row.set1) | (with_reducible refine Row.set_other ?_ _ (by first | omega | (simp;done) | (simp;omega))))):P:=h
theorem C3_rg {P:Prop} (h:P:=by repeat (first | (with_reducible exact rg) | (with_reducible exact row_new' (by first | omega | (simp;done) | (simp;omega))) | (with_reducible refine Row.drew ?_) | (with_reducible refine Row.drewN ?_ _) | (with_reducible refine Row.alloc ?_ _) | (with_reducible apply Row.set4) | (with_reducible apply Row.set4a) | (with_reducible apply Row.set4b) | (with_reducible apply Row.set2) | (with_reducible apply Row.set1) | (with_reducible refine Row.set_other ?_ _ (by first | omega | (simp;done) | (simp;omega))))):P:=h
theorem C3_rx {P:Prop} (h:P:=by repeat (first | (with_reducible exact rx) | (with_reducible exact row_new' (by first | omega | (simp;done) | (simp;omega))) | (with_reducible refine Row.drew ?_) | (with_reducible refine Row.drewN ?_ _) | (with_reducible refine Row.alloc ?_ _) | (with_reducible apply Row.set4) | (with_reducible apply Row.set4a) | (with_reducible apply Row.set4b) | (with_reducible apply Row.set2) | (with_reducible apply Row.set1) | (with_reducible refine Row.set_other ?_ _ (by first | omega | (simp;done) | (simp;omega))))):P:=h
theorem C4 {P:Prop} (h:P:=by repeat (first | (with_reducible exact row_new' (by first | omega | (simp;done) | (simp;omega))) | (with_reducible refine Row.drew ?_) | (with_reducible refine Row.alloc ?_ _))):P:=h
theorem C5_hB {P:Prop} (h:P:=by repeat (first | (with_reducible exact hB) | (with_reducible refine Below.drew ?_) | (with_reducible refine Below.alloc ?_ (by first | omega | (simp;done) | (simp;omega)) _) | (with_reducible refine Below.setCell ?_ (by first | omega | (simp;done) | (simp;omega)) _))):P:=h
theorem C6_rq {P:Prop} (h:P:=by repeat (first | (with_reducible exact rq) | (with_reducible exact row_new' (by first | omega | (simp;done) | (simp;omega))) | (with_reducible refine Row.drew ?_) | (with_reducible refine Row.alloc ?_ _) | (with_reducible apply Row.set4) | (with_reducible apply Row.set4a) | (with_reducible apply Row.set4b) | (with_reducible apply Row.set2) | (with_reducible apply Row.set1) | (with_reducible refine Row.set_other ?_ _ (by first | omega | (simp;done) | (simp;omega))))):P:=h
theorem C6_rp {P:Prop} (h:P:=by repeat (first | (with_reducible exact rp) | (with_reducible exact row_new' (by first | omega | (simp;done) | (simp;omega))) | (with_reducible refine Row.drew ?_) | (with_reducible refine Row.alloc ?_ _) | (with_reducible apply Row.set4) | (with_reducible apply Row.set4a) | (with_reducible apply Row.set4b) | (with_reducible apply Row.set2) | (with_reducible apply Row.set1) | (with_reducible refine Row.set_other ?_ _ (by first | omega | (simp;done) | (simp;omega))))):P:=h
end Go.Proofs.YtjpkfjmmmmfeeaaGreatDoor
namespace Go.Proofs.YtjpkfjmmmmfeeaaGreatDoor
open Go Go.RowKit Go.Lib Go.Shelf
/-- An interval's value in the program. -/
def I (a:Iv):Value := .agg #[.string (S a.lo.num),.string (S (a.lo.den:Int)),.string (S a.hi.num),.string (S (a.hi.den:Int))]
/-- What the listed variables hold: as Env, and errFails. -/
structure EnvE (a:Addr) (w:World):Prop where
 env:Env w
 fails:w.cell? ⟨1, 0,none⟩=some (.iface 283 (.pointer (some a)))
theorem EnvE.below {a:Addr} {w w':World} (h:EnvE a w) (hb:Below w.heap.size w w'):EnvE a w':=⟨h.env.below hb,(hb.cell (World.block_lt_of_cell? _ _ h.fails)).trans h.fails⟩
theorem echeck_true (w:World):Calls Tryz.prog 135 #[.bool true] w (UnitOk w):=by
 go_enter Tryz.func135, Tryz.ntmps135
 go_wp2
 go_end0
 exact ⟨rfl,Below.refl _ _⟩
theorem assert_nil (w:World):(Instr.typeAssert .nilIface 20 129 true).run Tryz.prog w = .ok (.tuple #[.nilIface,.bool false]) w:=by kernel_rfl
/-! compute[yardstick/api.Interval] -/
def ivIs (Pr:Iv→Prop) (w:World) (e:Ending) (w':World):Prop:=∃ a,Pr a∧e = .returned (I a)∧Below w.heap.size w w'
def ivOk (Pr:Iv→Prop) (w:World) (e:Ending) (w':World):Prop:=∃ a,Pr a∧e = .returned (.tuple #[I a,.int .i64 0])∧Below w.heap.size w w'
theorem ividle (bp bq:Nat) (w:World) :
  CallsD Tryz.prog 182 #[.pointer (some ⟨bp,0,none⟩),.pointer (some ⟨bq,0,none⟩)] .returning w fun e u' w'=>e = .returned (.tuple #[])∧u' = .returning∧w'=w:=by
 have hta:=assert_nil
 refine callsD_of_wpS Tryz.func182 rfl fun c₀ cs hu => ?_
 have e:(#[.pointer (some ⟨bp,0,none⟩),.pointer (some ⟨bq,0,none⟩)] ++ Array.replicate (Tryz.f182.ntmps - (#[.pointer (some ⟨bp,0,none⟩),.pointer (some ⟨bq,0,none⟩)]:Array Value).size) undef:Array Value)=#[.pointer (some ⟨bp,0,none⟩),.pointer (some ⟨bq,0,none⟩),undef,undef,undef,undef,undef,undef,undef,undef,undef,undef,undef,undef,undef,undef,undef]:=by kernel_rfl
 rw [e]
 apply wpS_seq
 apply wpS_region
 simp [wpOpsS,go_sem,recoverD,hu,Exit.thenS,hta]
 refine wpS_of_wp ?_
 go_hide hQ
 go_wp2
 subst hQ
 cases c₀
 simp_all [bodyPostS,results,Tryz.results182]
/-- compute, where the function that it calls hands back a result. -/
theorem ivcompute_ok (F:FuncId) (caps:Array Value) (s n:Nat) (Pr:Iv→Prop) (w:World) (eg:∀ args w,(callFunc F args).run Tryz.prog w = .ok (.enter F args) w)
  (hv:∀ W,Below w.heap.size w W→Calls Tryz.prog 183 #[.slice (some ⟨s,0,none⟩) n n,.func (.func 184) #[] #[]] W (BoolOk false W))
  (h:∀ W,Below w.heap.size w W→Calls Tryz.prog F caps W (ivIs Pr W)) :
  Calls Tryz.prog 132 #[.func (.func F) #[] caps,.slice (some ⟨s,0,none⟩) n n] w (ivOk Pr w):=by
 have hmf:∀ (fn:Fn) (first cap:Array Value) (w:World),(Instr.makeFunc fn first cap).run Tryz.prog w = .ok (.func fn first cap) w:=fun _ _ _ _=>rfl
 have hB:Below w.heap.size w w:=Below.refl _ _
 go_enter_defers Tryz.func132, Tryz.ntmps132
 go_wp2_with fail
 refine world_cut (fun X=>Below w.heap.size w X∧Row X w.heap.size (.cells #[.string ⟨#[]⟩,.string ⟨#[]⟩,.string ⟨#[]⟩,.string ⟨#[]⟩] 53)∧Row X (w.heap.size+1) (.cells #[.int .i64 0] 34)) ⟨C5_hB,C4,C4⟩ ?_
 clear hB
 rintro W1 ⟨hB,rp,rq⟩
 refine (hv _ hB).mono ?_
 rintro e W2 ⟨rfl,h1⟩
 replace hB:=hB.trans (h1.mono hB.size)
 replace rp:=Row.below rp h1
 replace rq:=Row.below rq h1
 clear h1
 go_wp2_with fail
 refine (echeck_true _).mono ?_
 rintro e W3 ⟨rfl,h1⟩
 replace hB:=hB.trans (h1.mono hB.size)
 replace rp:=Row.below rp h1
 replace rq:=Row.below rq h1
 clear h1
 have h':=h _ hB
 clear h hv
 go_wp2_with (go_at_fn F;refine h'.mono ?_;rintro e W4 ⟨a,pa,rfl,h1⟩;replace hB:=hB.trans (h1.mono hB.size);replace rp:=Row.below rp h1;replace rq:=Row.below rq h1;obtain ⟨sp,cp0,cp1,cp2,cp3,fp0,fp1,fp2,fp3⟩:=Row.cells4 rp;obtain ⟨sq,cq,fq⟩:=Row.cells1 rq;unfold I)
 refine leaves_cons (f := 182) (args:=#[.pointer (some ⟨w.heap.size,0,none⟩),.pointer (some ⟨w.heap.size+1,0,none⟩)]) (by simp) (by simp [go_sem]) ?_
 refine (ividle _ _ _).mono ?_
 rintro e u' w'' ⟨rfl,rfl,hw⟩
 have sB:=hB.size
 obtain ⟨hB',rp',rq'⟩:Below w.heap.size w w''∧Row w'' w.heap.size (.cells #[.string (S a.lo.num),.string (S (a.lo.den:Int)),.string (S a.hi.num),.string (S (a.hi.den:Int))] 53)∧Row w'' (w.heap.size+1) (.cells #[.int .i64 0] 34):=by
  rw [hw]
  exact ⟨C5_hB,C6_rp,C6_rq⟩
 clear hw
 obtain ⟨tp,dp0,dp1,dp2,dp3,_gp0,_gp1,_gp2,_gp3⟩:=Row.cells4 rp'
 obtain ⟨tq,dq,_gq⟩:=Row.cells1 rq'
 simp only [Leaves,settle]
 exact ⟨.tuple #[.agg #[.string (S a.lo.num),.string (S (a.lo.den:Int)),.string (S a.hi.num),.string (S (a.hi.den:Int))],.int .i64 0],by simp [results,Tryz.results132, go_sem,dp0,dp1,dp2,dp3,dq],a,pa,rfl,hB'⟩
/-! compute[yardstick/api.Ratio] -/
end Go.Proofs.YtjpkfjmmmmfeeaaGreatDoor
namespace Go.Proofs.YtjpkfjmmmmfeeaaGreatDoor
open Go Go.Lib
/-- What the k-th operation hands back (T = 10^places): `none` is the error. -/
def OpRes (k:Nat) (a b:Iv) (T:Int) (o:Option Iv):Prop :=
 match k with
 | 0=>o=some (addI a b)
 | 1=>o=some (subI a b)
 | 2=>o=some (mulI a b)
 | 3=>(b.Free∧o=some (divI a b))∨(¬ b.Free∧o=none)
 | 4=>o=some (hullI a b)
 | 5=>((meetI a b).Ok∧o=some (meetI a b))∨(¬ (meetI a b).Ok∧o=none)
 | 6=>(0≤a.lo∧∃ s,SqrtI a T s∧o=some s)∨(a.lo<0∧o=none)
 | _=>o=some (roundI a T)
theorem OpRes.ok {k:Nat} {a b s:Iv} {T:Int} (hT:0<T) (ha:a.Ok) (hb:b.Ok) (h:OpRes k a b T (some s)):s.Ok:=by
 unfold OpRes at h
 split at h
 ·cases h;exact addI_ok ha hb
 ·cases h;exact subI_ok ha hb
 ·cases h;exact mulI_ok ha hb
 ·rcases h with ⟨h0,h⟩ | ⟨_,h⟩
  ·cases h;exact divI_ok h0 ha hb
  ·cases h
 ·cases h;exact hullI_ok ha
 ·rcases h with ⟨h0,h⟩ | ⟨_,h⟩
  ·cases h;exact h0
  ·cases h
 ·rcases h with ⟨_,t,ht,h⟩ | ⟨_,h⟩
  ·cases h;exact SqrtI.ok hT ha ht
  ·cases h
 ·cases h
  have h1:=sub_roundI (a:=a) hT
  have h2:a.lo≤a.hi:=ha
  exact Rat.le_trans (Rat.le_trans h1.1 h2) h1.2
/-- Narrower operands: a narrower result; and where only the wider ones have one, it is the meet. -/
theorem OpRes.sub {k:Nat} {a b c d t:Iv} {T:Int} {o:Option Iv} (hT:0<T) (ha:a.Ok) (hb:b.Ok) (h1:a.Sub c) (h2:b.Sub d)
  (h:OpRes k a b T o) (h':OpRes k c d T (some t)):(∃ s,o=some s∧s.Sub t)∨(k=5∧o=none):=by
 unfold OpRes at h h'
 split at h <;> simp only at h'
 ·cases h';exact .inl ⟨_,h,addI_sub h1 h2⟩
 ·cases h';exact .inl ⟨_,h,subI_sub h1 h2⟩
 ·cases h';exact .inl ⟨_,h,mulI_sub ha hb h1 h2⟩
 ·rcases h' with ⟨h0,h'⟩ | ⟨_,h'⟩
  ·cases h'
   rcases h with ⟨_,h⟩ | ⟨hn,_⟩
   ·exact .inl ⟨_,h,divI_sub h0 ha hb h1 h2⟩
   ·exact absurd (h0.sub h2) hn
  ·cases h'
 ·cases h';exact .inl ⟨_,h,hullI_sub ha hb h1 h2⟩
 ·rcases h' with ⟨h0,h'⟩ | ⟨_,h'⟩
  ·cases h'
   rcases h with ⟨hm,h⟩ | ⟨_,h⟩
   ·exact .inl ⟨_,h,meetI_sub hm h1 h2⟩
   ·exact .inr ⟨rfl,h⟩
  ·cases h'
 ·rcases h' with ⟨h0,u,hu,h'⟩ | ⟨_,h'⟩
  ·cases h'
   rcases h with ⟨_,s,hs,h⟩ | ⟨hn,_⟩
   ·exact .inl ⟨_,h,SqrtI.sub hT h1 hs hu⟩
   ·exact absurd (Rat.le_trans h0 h1.1) (Rat.not_le.2 hn)
  ·cases h'
 ·cases h';exact .inl ⟨_,h,roundI_sub hT h1⟩
/-- How long the results are. -/
theorem OpRes.dig {k j p:Nat} {a b s:Iv} (hj:0<j) (hb:b.Ok) (da:IDig j a) (db:IDig j b) (h:OpRes k a b (TT p) (some s)):IDig (j+j+p+p+1) s:=by
 unfold OpRes at h
 split at h
 ·cases h;exact (addI_dig da db).mono (by omega)
 ·cases h;exact (subI_dig da db).mono (by omega)
 ·cases h;exact (mulI_dig da db).mono (by omega)
 ·rcases h with ⟨h0,h⟩ | ⟨_,h⟩
  ·cases h;exact (divI_dig da db h0 hb).mono (by omega)
  ·cases h
 ·cases h;exact (hullI_dig da db).mono (by omega)
 ·rcases h with ⟨h0,h⟩ | ⟨_,h⟩
  ·cases h;exact (meetI_dig da db).mono (by omega)
  ·cases h
 ·rcases h with ⟨_,t,ht,h⟩ | ⟨_,h⟩
  ·cases h;exact (SqrtI.dig da hj ht).mono (by omega)
  ·cases h
 ·cases h;exact (roundI_dig da).mono (by omega)
/-- An index that an integer determines. -/
def pk (c n:Int):Int:=if c<0 then (-(c+1)) % n else c % n
theorem pk_nonneg (c:Int) {n:Int} (h:0<n):0≤pk c n:=by unfold pk;split <;> exact Int.emod_nonneg _ (by omega)
theorem pk_lt (c:Int) {n:Int} (h:0<n):pk c n<n:=by unfold pk;split <;> exact Int.emod_lt_of_pos _ h
end Go.Proofs.YtjpkfjmmmmfeeaaGreatDoor
