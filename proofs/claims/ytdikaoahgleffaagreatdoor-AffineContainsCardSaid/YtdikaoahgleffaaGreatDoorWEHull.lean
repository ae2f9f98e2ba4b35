/-
 Package enclosure: that no interval of a slice is invalid; must; an operation's result; the least and the greatest of some fractions.
-/
import Derived.Deep.RegionHeld3
import Derived.Test.YtdikaoahgleffaaGreatDoorWEValid
import Derived.Test.YtdikaoahgleffaaGreatDoorWEnv8
set_option maxRecDepth 100000
set_option maxHeartbeats 4000000
namespace Go.Proofs.YtdikaoahgleffaaGreatDoor
open Go Go.RowKit Go.Lib Go.Shelf
def QIs (q:Rat) (w:World) (e:Ending) (w':World):Prop:=e = .returned (Q q)∧Below w.heap.size w w'
theorem ivbad (a:Iv) (ha:IDig 200 a) (ho:a.Ok) (w:World) (he:Env w):Calls Tryz.prog 174 #[I a] w (BoolOk false w):=by
 have hB:Below w.heap.size w w:=Below.refl _ _;have h1:=fun W (h:Env W)=>evalid a ha W h
 have ho2:a.lo≤a.hi:=ho;rw [decide_eq_true ho2] at h1;clear ho ho2;show Calls Tryz.prog 174 #[.agg #[.string (S a.lo.num),.string (S (a.lo.den:Int)),.string (S a.hi.num),.string (S (a.hi.den:Int))]] w _;go_enter Tryz.func174, Tryz.ntmps174;go_wp2_with fail;have sB:=hB.size;refine world_cut (fun X=>Below w.heap.size w X∧Row X w.heap.size (oI a.lo a.hi)) ⟨C1_hB,C2⟩ ?_;clear hB sB;rintro V1 ⟨hB,ra⟩;have sa:=Row.cells4 ra;refine (h1 _ (he.below hB)).mono ?_;rintro e W2 ⟨rfl,h1⟩;clear sa;replace hB:=hB.trans (h1.mono hB.size);replace ra:=Row.below ra h1;clear h1;have sa:=Row.cells4 ra;go_wp2;go_ret;exact ⟨rfl,hB⟩
theorem index1 (G:FuncId) (eg:∀ args w,(callFunc G args).run Tryz.prog w = .ok (.enter G args) w) (s:Nat) (a:Iv) (w:World) (r0:Row w s (oI a.lo a.hi))
  (ha:∀ W,Below w.heap.size w W→Calls Tryz.prog G #[I a] W (BoolOk false W)) :
  Calls Tryz.prog 203 #[.slice (some ⟨s,0,none⟩) 1 1,.func (.func G) #[] #[]] w fun e w'=>e = .returned (.int .i64 (-1))∧Below w.heap.size w w':=by
 unfold I at ha;go_enter Tryz.func203, Tryz.ntmps203;go_wp2;go_loopw [8] (fun iv wr=>∃ (k:Nat),k≤1∧iv = .int .i64 (k:Int)∧Row wr s (oI a.lo a.hi)∧Below w.heap.size w wr) (fun iv _=>1 - (RowKit.intOf iv).toNat)
 case atStart=>exact ⟨0,by omega,rfl,r0,Below.refl _ _⟩
 case round =>
  obtain ⟨k,hk,rfl,hr,hB'⟩:=hrel;obtain ⟨s0,c0,c1,c2,c3,f0,f1,f2,f3⟩:=Row.cells4 hr;rcases (show k=0∨k=1 by omega) with rfl | rfl
  ·go_wp2_with (go_at_fn G;refine (ha _ hB').mono ?_;rintro e W1 ⟨rfl,h1⟩);exact ⟨⟨1,by omega,rfl,Row.below hr h1,hB'.trans (h1.mono hB'.size)⟩,by simp [RowKit.intOf]⟩
  ·go_wp2;go_ret;exact ⟨rfl,hB'⟩
theorem contains1 (G:FuncId) (eg:∀ args w,(callFunc G args).run Tryz.prog w = .ok (.enter G args) w) (s:Nat) (a:Iv) (w:World) (r0:Row w s (oI a.lo a.hi))
  (ha:∀ W,Below w.heap.size w W→Calls Tryz.prog G #[I a] W (BoolOk false W)) :
  Calls Tryz.prog 173 #[.slice (some ⟨s,0,none⟩) 1 1,.func (.func G) #[] #[]] w (BoolOk false w):=by
 have H:=index1 G eg s a w r0 ha;go_enter Tryz.func173, Tryz.ntmps173;go_wp2_with fail;refine H.mono ?_;rintro e W ⟨rfl,h1⟩;go_wp2;go_ret;exact ⟨rfl,h1⟩
theorem emust (q:Rat) (w:World):Calls Tryz.prog 138 #[Q q,.int .i64 0] w (QIs q w):=by
 have hB:Below w.heap.size w w:=Below.refl _ _;unfold QIs Q;go_enter Tryz.func138, Tryz.ntmps138;go_wp2_with fail;have sB:=hB.size;refine world_cut (fun X=>Below w.heap.size w X∧Row X w.heap.size (oR q)∧Row X (w.heap.size+1) oR0) ⟨C1_hB,C2,C2⟩ ?_;clear hB sB;rintro V1 ⟨hB,rx,ro⟩;have sx:=Row.cells2 rx;have so:=Row.cells2 ro;refine (echeck_true _).mono ?_;rintro e W2 ⟨rfl,h1⟩;clear sx so;replace hB:=hB.trans (h1.mono hB.size);replace rx:=Row.below rx h1;replace ro:=Row.below ro h1;clear h1;have sx:=Row.cells2 rx;have so:=Row.cells2 ro;go_wp2;have sB:=hB.size;refine post_cut (kp1 hB rx fun X=>Row X (w.heap.size+1) (oR q)) ⟨C1_hB,C3_rx,C3_ro⟩ ?_;unfold kp1;clear rx sx ro so hB sB;rintro V3 ⟨hB,rx,ro⟩;have sx:=Row.cells2 rx;have so:=Row.cells2 ro;refine bodyPost_ret (v := .agg #[.string (S q.num),.string (S (q.den:Int))]) ?res rfl ⟨rfl,hB⟩
 case res=>simp [results,Tryz.results138, go_sem,so]
end Go.Proofs.YtdikaoahgleffaaGreatDoor
