/-
 The fixed examples that each affine law checks first: sane answers true. The affine laws' own made. What the rows' listed variables give, and a world that meets the list; arrays of integers as arguments. The affine laws' list of package-level variables: what Env wants. Arguments that are the integers of a form: a struct of two integers and an array of six. Affine, plain: at the forms, values and sources that integers determine nothing is too large.
-/
import Derived.Carry
import Derived.Deep.DeepHandedRow
import Derived.Deep.Slices
import Derived.Lay
import Derived.Lib.LaidTab
import Derived.Lib.LaidU8
import Derived.Lib.SmallJoins
import Derived.MakeChecks
import Derived.OpenShut
import Derived.ProofKit
import Derived.SevenTiedAt
import Derived.Stop.LaidErr
import Derived.Test.YtnokpldomlmamaaGreatDoorCards
import Derived.Test.YtnokpldomlmamaaGreatDoorTie
import Derived.WideKeyArr2
import Derived.Test.YtnokpldomlmamaaGreatDoorKAMade
import Derived.Test.YtnokpldomlmamaaGreatDoorKAMadeW
import Derived.Test.YtnokpldomlmamaaGreatDoorKASame
import Derived.Test.YtnokpldomlmamaaGreatDoorKECompute
import Derived.Test.YtnokpldomlmamaaGreatDoorKSane8
set_option linter.unusedSimpArgs false
set_option linter.unusedVariables false
set_option maxRecDepth 100000
set_option maxHeartbeats 16000000
namespace Go.Proofs.YtnokpldomlmamaaGreatDoor
open Go Go.RowKit Go.Lib Go.Shelf
theorem eA_d2:FDig 200 eA:=eA_dig.mono (by decide)
theorem eB_d2:FDig 200 eB:=eB_dig.mono (by decide)
theorem rat8 {n d:Int} {q:Rat} (h:Rat.divInt n d=q) (hn:IsInt n:=by decide) (hd:IsInt d:=by decide) (hd0:0<d:=by decide):RatioIs n d q:=ratio_is h hn hd hd0
theorem s_AR (W:World) (p:Option Addr) (c:Nat) (h:TAt 62 W p eA.t) (H:Env W):Calls Tryz.prog 30 #[FV eA p c] W (IvQ (17 / 2) (23 / 2) W):=by
 have:=arange eA_ok eA_rangeF (by decide) p c W h H
 rw [eA_range] at this;exact this
theorem s_AA (W:World) (p:Option Addr) (c g:Nat) (h:TAt 62 W p eA.t) (r:Row W g (.cells #[.int .i64 1,.string (S (1:Rat).num),.string (S ((1:Rat).den:Int))] 62)) (H:Env W):Calls Tryz.prog 31 #[FV eA p c,.slice (some ⟨g,0,none⟩) 1 1] W (IvQ (21 / 2) (23 / 2) W):=by
 have:=aat eA_atF eV_ok eA_ok eA_d2 p c (some ⟨g,0,none⟩) 1 W h (terms1 r) H
 rw [eA_at] at this;exact this
theorem s_SB (W:World) (p:Option Addr) (c:Nat) (q:Option Addr) (d:Nat) (h:TAt 62 W p eA.t) (h2:TAt 62 W q eB.t) (H:Env W):Calls Tryz.prog 38 #[FV eA p c,FV eB q d] W (FRes eD W):=by
 have:=asub eAB_combF eA_ok eB_ok eA_d2 eB_d2 p c q d W h h2 H
 rw [eAB_comb] at this;exact this
theorem s_SA (W:World) (p:Option Addr) (c:Nat) (q:Option Addr) (d:Nat) (h:TAt 62 W p eA.t) (h2:TAt 62 W q eA.t) (H:Env W):Calls Tryz.prog 38 #[FV eA p c,FV eA q d] W (FRes (constF 0) W):=by
 have:=asub eAA_combF eA_ok eA_ok eA_d2 eA_d2 p c q d W h h2 H
 rw [eAA_comb] at this;exact this
theorem s_MM (W:World) (p:Option Addr) (c:Nat) (q:Option Addr) (d:Nat) (h:TAt 62 W p eA.t) (h2:TAt 62 W q eB.t) (H:Env W):Calls Tryz.prog 29 #[FV eA p c,FV eB q d] W (FRes eM W):=by
 have:=amul eAB_mulF eA_ok eB_ok eA_d2 eB_d2 p c q d W h h2 H
 rw [eAB_mul] at this;exact this
theorem s_IV (W:World) (q:Option Addr) (d:Nat) (h2:TAt 62 W q eB.t) (H:Env W):Calls Tryz.prog 42 #[FV eB q d] W (FRes eI W):=by
 have:=ainverse eB_invF eB_ok q d W h2 H
 rw [eB_inv] at this;exact this
theorem s_CV (W:World) (p:Option Addr) (c:Nat) (q:Option Addr) (d g:Nat) (h:TAt 62 W p eA.t) (h2:TAt 62 W q eB.t)
  (r:Row W g (.cells #[.int .i64 1,.string (S (1 / 3:Rat).num),.string (S ((1 / 3:Rat).den:Int)),.int .i64 2,.string (S (1 / 3:Rat).num),.string (S ((1 / 3:Rat).den:Int))] 70)) (H:Env W):Calls Tryz.prog 32 #[FV eA p c,FV eB q d,.slice (some ⟨g,0,none⟩) 2 2] W (CovRes (2 / 3) W):=by
 have:=acov eS_covF eS_ok eS_knows eA_ok eB_ok eA_d2 eB_d2 p c q d (some ⟨g,0,none⟩) 2 W h h2 (terms2 r) H
 rw [eS_cov] at this;exact this
theorem s_SR (W:World) (H:Env W):Calls Tryz.prog 73 #[FV (constF 4) none 0,.int .i64 2] W (FRes (constF 2) W):=by
 have:=asqrt c4_sqrtF (const_ok 4) none 0 W (TAt.nil _ _) H
 rw [c4_sqrt] at this;exact this
theorem s_VZ (W:World) (H:Env W):Calls Tryz.prog 34 #[.agg #[.string ⟨#[]⟩,.string ⟨#[]⟩,.slice none 0 0,.string ⟨#[]⟩,.string ⟨#[]⟩]] W (BoolOk false W) :=
 avalid (l:=[]) (n:=0) RK.zero RK.zero (ot:=fun _=>none) (fun i hi=>absurd hi (by omega)) none 0 rfl W (UAt.nil _ _) H
theorem s_K (q:Rat) (h:QDig 9 q) (W:World) (H:Env W):Calls Tryz.prog 74 #[Q q] W (ConstZ 0 q W):=aconst (h.mono (by decide)) W H
theorem sane8 (w:World) (he:Env w):Calls Tryz.prog 24 #[] w (BoolOk true w) :=
 sane8_0 (A:=eA) (B:=eB) (D:=eD) (N:=constF 0) (M:=eM) (J:=eI) (Z:=constF 2) (z:=0)
  (rat8 (q:=17 / 2) (by decide +kernel)) (rat8 (q:=23 / 2) (by decide +kernel)) (rat8 (q:=21 / 2) (by decide +kernel)) (rat8 (q:=0) (by decide +kernel)) (rat8 (q:=6) (by decide +kernel)) (rat8 (q := -1) (by decide +kernel)) (rat8 (q:=1 / 2) (by decide +kernel))
  (rat8 (q:=40) (by decide +kernel)) (rat8 (q:=24) (by decide +kernel)) (rat8 (q:=2) (by decide +kernel)) (rat8 (q:=3) (by decide +kernel)) (rat8 (q:=1 / 4) (by decide +kernel)) (rat8 (q := -1 / 6) (by decide +kernel)) (rat8 (q:=1 / 12) (by decide +kernel))
  (rat8 (q:=2 / 3) (by decide +kernel)) (rat8 (q:=1) (by decide +kernel)) (rat8 (q:=1 / 3) (by decide +kernel)) (rat8 (q:=4) (by decide +kernel))
  aexample s_AR s_AA s_SB s_SA s_MM s_IV s_CV (s_K 4 (qd (by decide +kernel))) s_SR (s_K 0 (qd (by decide +kernel))) (s_K 2 (qd (by decide +kernel)))
  (fun W p c h=>asame (f:=constF 0) (by decide) p none c 0 W h (TAt.nil _ _)) (fun W p c h=>asame (f:=constF 2) (by decide) p none c 0 W h (TAt.nil _ _))
  (fun W p c g h r=>asame (f:=eD) (by decide) p (some ⟨g,0,none⟩) c 2 W h (terms2 r)) (fun W p c g h r=>asame (f:=eM) (by decide) p (some ⟨g,0,none⟩) c 2 W h (terms2 r)) (fun W p c g h r=>asame (f:=eI) (by decide) p (some ⟨g,0,none⟩) c 1 W h (terms1 r))
  (fun W p c h H=>avalid_ok eA_ok eA_d2 p c W h H) s_VZ w he
end Go.Proofs.YtnokpldomlmamaaGreatDoor
namespace Go.Proofs.YtnokpldomlmamaaGreatDoor
open Go Go.RowKit Go.Lib Go.Shelf
theorem lmade8 {c0 r0:Int} (hc:IsInt c0) (hr:IsInt r0) (x:Nat→Int) (hx:∀ i,i<6→IsInt (x i)) (w:World):Calls Tryz.prog 25 #[.agg #[.int .i64 c0,.int .i64 r0,.int .i64 (x 0),.int .i64 (x 1),.int .i64 (x 2),.int .i64 (x 3),.int .i64 (x 4),.int .i64 (x 5)]] w (FIs (mForm c0 r0 x) w):=by
 have hB:Below w.heap.size w w:=Below.refl _ _
 have M:=fun W=>r8made hc hr x hx W
 unfold FIs
 unfold FIs at M
 generalize mForm c0 r0 x=G at *
 unfold FV at *
 clear hc hr hx
 go_enter Tryz.func25, Tryz.ntmps25
 go_wp2_with fail
 have d0_o:w.heap.size≤w.heap.size+1:=by have:=hB.size;omega
 have sB:=hB.size
 refine world_cut (fun X=>Below w.heap.size w X∧Row X (w.heap.size+1) (.cells #[.string ⟨#[]⟩,.string ⟨#[]⟩,.slice none 0 0,.string ⟨#[]⟩,.string ⟨#[]⟩] 58)) ⟨BW,RW8⟩ ?_
 clear hB sB
 rintro V1 ⟨hB,ro⟩
 have so:=RFz5 ro
 refine (M _).mono ?_
 rintro e W2 ⟨p,c,hT,rfl,h1⟩
 have stp:=St1 hB h1 ro;clear hB h1 ro so
 obtain ⟨hB,ro⟩:=stp
 have so:=RFz5 ro
 go_wp2_with fail
 have sB:=hB.size
 refine post_cut (fun X=>Below w.heap.size w X∧Row X (w.heap.size+1) (.cells #[.string (S G.c.num),.string (S (G.c.den:Int)),.slice p G.t.length c,.string (S G.r.num),.string (S (G.r.den:Int))] 58)∧TAt 62 X p G.t) ⟨BW,RW8,TW⟩ ?_
 clear ro
 clear so
 clear hB sB hT
 rintro V3 ⟨hB,ro,hT⟩
 have so:=RFz5 ro
 refine bodyPost_ret (v := .agg #[.string (S G.c.num),.string (S (G.c.den:Int)),.slice p G.t.length c,.string (S G.r.num),.string (S (G.r.den:Int))]) ?res rfl ⟨p,c,hT,rfl,hB⟩
 case res=>simp [results,Tryz.results25, go_sem,so]
end Go.Proofs.YtnokpldomlmamaaGreatDoor
namespace Go.Proofs.YtnokpldomlmamaaGreatDoor
open Go Go.ChangeShapes Go.WideShapes Go.ChangeAt Go.RowKit Go.Lib Go.WideMaps Go.Joins
theorem gPow:Tryz.prog.globalNamed "internal/strconv.uint64pow10" = some 4 := by kernel_rfl
theorem gPowType:(Tryz.prog.globals[4]?).map (·.type)=some 306 := by kernel_rfl
theorem cellsPow:Tryz.prog.cellsOf 306 = 20:=by kernel_rfl
theorem cellsU64:Tryz.prog.cellsOf 278 = 1:=by kernel_rfl
theorem gRange:Tryz.prog.globalNamed "strconv.ErrRange" = some 3 := by kernel_rfl
theorem gRangeType:(Tryz.prog.globals[3]?).map (·.type)=some 169 := by kernel_rfl
theorem gSyntax:Tryz.prog.globalNamed "strconv.ErrSyntax" = some 2 := by kernel_rfl
theorem gSyntaxType:(Tryz.prog.globals[2]?).map (·.type)=some 169 := by kernel_rfl
/-- A variable of an interface type that reads as an interface value holds one. -/
theorem iface_of_reads {P:Program} {W:World} {n nm:String} {d:DataW Unit} {g:Nat} {ti:TypeId} {ms:Array (String × TypeId)} (h:VarReads P W n (.iface nm d)) (hg:P.globalNamed n=some g) (ht:(P.globals[g]?).map (·.type)=some ti) (hi:P.underlying ti=some (.interface ms)) :
  ∃ te pe,W.cell? ⟨g,0,none⟩=some (.iface te pe):=by
 obtain ⟨g',t',cs,fuel,p,hg',ht',hvar,hd⟩:=h
 obtain rfl:=Option.some.inj (hg.symm.trans hg')
 obtain rfl:=Option.some.inj (ht.symm.trans ht')
 have hc:=World.var?_cell hg hvar 0
 have hc':W.cell? ⟨g,0,none⟩=cs.toList[0]? := by rw [hc];simp
 generalize cs.toList=l at hd hc'
 cases fuel with
 | zero=>simp [DataW.trod] at hd
 | succ k =>
  rcases l with _ | ⟨v,_ | ⟨v',l⟩⟩
  ·simp [DataW.trod,hi] at hd
  ·cases v with
   | iface te pe=>exact ⟨te,pe,by simpa using hc'⟩
   | _=>simp [DataW.trod,hi] at hd
  ·simp [DataW.trod,hi] at hd
theorem isInt_wf {a:Int} (h:(Lit.int .i64 a).wf=true):IsInt a:=by
 have h2 : -9223372036854775808≤a∧a≤9223372036854775807:=by simpa [Lit.wf,IntKind.min,IntKind.max,IntKind.signed,IntKind.bits] using h
 exact h2
end Go.Proofs.YtnokpldomlmamaaGreatDoor
namespace Go.Proofs.YtnokpldomlmamaaGreatDoor
open Go Go.ChangeShapes Go.WideShapes Go.ChangeAt Go.RowKit Go.Lib Go.WideMaps Go.Joins
/-- The list of the affine laws. -/
abbrev lawLaid8:List (String × DataW Unit):=Rows.affineRefusesRow.laid
theorem env8_of_laid {W:World} (h:laidMetH Tryz.prog lawLaid8 W):Env W:=by
 rw [MakeChecks.laidMetH_plain _ _ _ (by kernel_rfl)] at h
 refine ⟨?_,iface_of_reads (Lib.laidMet.reads h (.tail _ (.tail _ (.tail _ (.tail _ (.tail _ (.head _))))))) gSyntax gSyntaxType Tryz.underlying169, iface_of_reads (Lib.laidMet.reads h (.tail _ (.tail _ (.tail _ (.tail _ (.head _)))))) gRange gRangeType Tryz.underlying169⟩
 exact Lib.tabIs_of_head (rest:=lawLaid8.drop 3) gPow gPowType Tryz.underlying306 Tryz.underlying278 cellsU64 cellsPow h.tail.tail
/-- A world that meets the list. -/
noncomputable def lawWorld8 (os:Os):World:=World.laidAll Tryz.prog os lawLaid8
theorem laid_met8 (os:Os) (args:Array Value):laidMetH Tryz.prog lawLaid8 ((lawWorld8 os).forCall (fun _ _=>0) ⟨#[],args,[]⟩).memory:=by
 rw [MakeChecks.laidMetH_plain _ _ _ (by kernel_rfl)]
 exact laidMet_laidAll _ (by kernel_rfl) (by kernel_rfl)
end Go.Proofs.YtnokpldomlmamaaGreatDoor
namespace Go.Proofs.YtnokpldomlmamaaGreatDoor
open Go Go.RowKit Go.Lib Go.ChangeShapes Go.WideShapes
section
variable {H:Type} {enc:TypeId × Value→H} {W:World}
theorem trodLt8 {t:TypeId} {v:Value} {d:DataW H} {ps:List MemPlace} (h:DataW.Trod enc Tryz.prog W 0 (fun _=>true) true t v d ps):∀ x ∈ ps,x.block<W.heap.size:=fun x hx=>by
 obtain ⟨n,h⟩:=h
 exact DataW.trod_lt n _ _ _ h x hx
theorem listN6 {α:Type} {l:List α} (h:l.length=6):∃ a b c d e f,l=[a,b,c,d,e,f]:=by
 match l,h with
 | [a,b,c,d,e,f],_=>exact ⟨a,b,c,d,e,f,rfl⟩
theorem trod_six {fuel:Nat} {a b c d e f:Value} {x:DataW H × List MemPlace} (h:DataW.trod enc Tryz.prog W 0 (fun _=>true) true fuel 53 [a,b,c,d,e,f]=some x):∃ g:Nat→Int,[a,b,c,d,e,f]=[.int .i64 (g 0),.int .i64 (g 1),.int .i64 (g 2),.int .i64 (g 3),.int .i64 (g 4),.int .i64 (g 5)]∧∀ i,i<6→IsInt (g i):=by
 obtain ⟨ys,m,_,hx,_,hl,hi⟩:=DataW.trod_array Tryz.underlying53 h
 have ce:Tryz.prog.cellsOf 3 = 1:=by kernel_rfl
 rw [ce] at hi
 obtain ⟨y0,y1,y2,y3,y4,y5,rfl⟩:=listN6 hl
 have h0:DataW.trod enc Tryz.prog W 0 (fun _=>true) true m 3 [a]=some y0:=by simpa using hi 0 (by omega)
 have h1:DataW.trod enc Tryz.prog W 0 (fun _=>true) true m 3 [b]=some y1:=by simpa using hi 1 (by omega)
 have h2:DataW.trod enc Tryz.prog W 0 (fun _=>true) true m 3 [c]=some y2:=by simpa using hi 2 (by omega)
 have h3:DataW.trod enc Tryz.prog W 0 (fun _=>true) true m 3 [d]=some y3:=by simpa using hi 3 (by omega)
 have h4:DataW.trod enc Tryz.prog W 0 (fun _=>true) true m 3 [e]=some y4:=by simpa using hi 4 (by omega)
 have h5:DataW.trod enc Tryz.prog W 0 (fun _=>true) true m 3 [f]=some y5:=by simpa using hi 5 (by omega)
 obtain ⟨x0,e0,f0,g0⟩:=DataW.trod_int Tryz.underlying3 h0
 obtain ⟨x1,e1,f1,g1⟩:=DataW.trod_int Tryz.underlying3 h1
 obtain ⟨x2,e2,f2,g2⟩:=DataW.trod_int Tryz.underlying3 h2
 obtain ⟨x3,e3,f3,g3⟩:=DataW.trod_int Tryz.underlying3 h3
 obtain ⟨x4,e4,f4,g4⟩:=DataW.trod_int Tryz.underlying3 h4
 obtain ⟨x5,e5,f5,g5⟩:=DataW.trod_int Tryz.underlying3 h5
 simp only [List.cons.injEq,and_true] at e0 e1 e2 e3 e4 e5
 subst e0 e1 e2 e3 e4 e5
 refine ⟨fun i=>[x0,x1,x2,x3,x4,x5].getD i 0,rfl,fun i hi => ?_⟩
 rcases (show i=0∨i=1∨i=2∨i=3∨i=4∨i=5 by omega) with rfl | rfl | rfl | rfl | rfl | rfl
 ·exact isInt_wf g0
 ·exact isInt_wf g1
 ·exact isInt_wf g2
 ·exact isInt_wf g3
 ·exact isInt_wf g4
 ·exact isInt_wf g5
theorem trod_numbers {fuel:Nat} {cs:List Value} {x:DataW H × List MemPlace} (h:DataW.trod enc Tryz.prog W 0 (fun _=>true) true fuel 55 cs=some x) :
  ∃ (c r:Int) (g:Nat→Int),cs=[.int .i64 c,.int .i64 r,.int .i64 (g 0),.int .i64 (g 1),.int .i64 (g 2),.int .i64 (g 3),.int .i64 (g 4),.int .i64 (g 5)]∧IsInt c∧IsInt r∧∀ i,i<6→IsInt (g i):=by
 obtain ⟨xs,n,_,_,hl,hlen,hf⟩:=DataW.trod_struct Tryz.underlying55 h
 have c8:Tryz.prog.cellsOf 55 = 8:=by kernel_rfl
 have c6:Tryz.prog.cellsOf 53 = 6:=by kernel_rfl
 have c1:Tryz.prog.cellsOf 3 = 1:=by kernel_rfl
 rw [c8] at hl
 match cs,hl with
 | [p,q,a,b,c,d,e,f],_ =>
  have h0:DataW.trod enc Tryz.prog W 0 (fun _=>true) true n 3 (([p,q,a,b,c,d,e,f].drop 0).take (Tryz.prog.cellsOf 3))=xs[0]? := hf 0 _ rfl
  have h1:DataW.trod enc Tryz.prog W 0 (fun _=>true) true n 3 (([p,q,a,b,c,d,e,f].drop 1).take (Tryz.prog.cellsOf 3))=xs[1]? := hf 1 _ rfl
  have h2:DataW.trod enc Tryz.prog W 0 (fun _=>true) true n 53 (([p,q,a,b,c,d,e,f].drop 2).take (Tryz.prog.cellsOf 53))=xs[2]? := hf 2 _ rfl
  rw [c1] at h0 h1
  rw [c6] at h2
  obtain ⟨y0,e0⟩:∃ y,xs[0]? = some y:=⟨xs[0]'(by rw [hlen];decide),List.getElem?_eq_getElem _⟩
  obtain ⟨y1,e1⟩:∃ y,xs[1]? = some y:=⟨xs[1]'(by rw [hlen];decide),List.getElem?_eq_getElem _⟩
  obtain ⟨y2,e2⟩:∃ y,xs[2]? = some y:=⟨xs[2]'(by rw [hlen];decide),List.getElem?_eq_getElem _⟩
  rw [e0] at h0
  rw [e1] at h1
  rw [e2] at h2
  obtain ⟨z0,ez0,_,hz0⟩:=DataW.trod_int Tryz.underlying3 h0
  obtain ⟨z1,ez1,_,hz1⟩:=DataW.trod_int Tryz.underlying3 h1
  obtain ⟨g,eg,hg⟩:=trod_six (a:=a) (b:=b) (c:=c) (d:=d) (e:=e) (f:=f) h2
  simp at ez0 ez1
  exact ⟨z0,z1,g,by rw [ez0,ez1,eg],isInt_wf hz0,isInt_wf hz1,hg⟩
theorem agg_cells8 {v:Value} {cs:List Value} (h:v.cells.toList=cs) (ha:∃ xs,v = .agg xs):v = .agg cs.toArray:=by
 obtain ⟨xs,rfl⟩:=ha
 rw [← h]
 simp [Value.cells]
theorem open_numbers {v:Value} {d:DataW H} {ps:List MemPlace} {base:Nat} (hv:Value.okWide Tryz.prog W .any base 55 v) (h:DataW.Trod enc Tryz.prog W 0 (fun _=>true) true 55 v d ps) :
  ∃ (c r:Int) (g:Nat→Int),v = .agg #[.int .i64 c,.int .i64 r,.int .i64 (g 0),.int .i64 (g 1),.int .i64 (g 2),.int .i64 (g 3),.int .i64 (g 4),.int .i64 (g 5)]∧IsInt c∧IsInt r∧∀ i,i<6→IsInt (g i):=by
 unfold Value.okWide at hv
 rw [Tryz.underlying55] at hv
 obtain ⟨cs,rfl,_,_⟩:=hv
 obtain ⟨fuel,hf⟩:=h
 obtain ⟨c,r,g,e,h1,h2,h3⟩:=trod_numbers hf
 exact ⟨c,r,g,agg_cells8 e ⟨_,rfl⟩,h1,h2,h3⟩
theorem open_six {v:Value} {d:DataW H} {ps:List MemPlace} {base:Nat} (hv:Value.okWide Tryz.prog W .any base 53 v) (h:DataW.Trod enc Tryz.prog W 0 (fun _=>true) true 53 v d ps) :
  ∃ g:Nat→Int,v = .agg #[.int .i64 (g 0),.int .i64 (g 1),.int .i64 (g 2),.int .i64 (g 3),.int .i64 (g 4),.int .i64 (g 5)]∧∀ i,i<6→IsInt (g i):=by
 have arrKey6:Go.WideMaps.ArrKey Tryz.prog 53 3 6:=⟨Tryz.underlying53, by kernel_rfl,by kernel_rfl,by kernel_rfl⟩
 obtain ⟨cs,rfl,hsz⟩:∃ xs:Array Value,v = .agg xs∧xs.size=6:=Go.WideMaps.okWide_arr arrKey6 hv
 obtain ⟨a,b,c,d',e,f,hl⟩:=listN6 (l:=cs.toList) (by simpa using hsz)
 obtain ⟨fuel,hf⟩:=h
 have hc:(Value.agg cs).cells.toList=[a,b,c,d',e,f]:=by rw [← hl];simp [Value.cells]
 rw [hc] at hf
 obtain ⟨g,e1,h1⟩:=trod_six hf
 refine ⟨g,agg_cells8 (hc.trans e1) ⟨_,rfl⟩,h1⟩
end
end Go.Proofs.YtnokpldomlmamaaGreatDoor
namespace Go.Proofs.YtnokpldomlmamaaGreatDoor
open Go Go.Lib
theorem one_dig:QDig 9 1:=by unfold QDig Dig;decide +kernel
theorem mone_dig:QDig 9 (-1):=by unfold QDig Dig;decide +kernel
theorem gr_one:Gr 1 1 1:=⟨1,by decide +kernel,by decide⟩
theorem mf_dig (c r:Int) (x:Nat→Int):FDig 9 (mForm c r x):=(mForm_gr c r x).dig (by decide) (by decide) (by decide)
theorem MulF.made {a b:Frm} (ha:FGr 4 80 a) (hb:FGr 4 80 b) (oa:a.Ok) (ob:b.Ok) (la:a.t.length≤5) (lb:b.t.length≤5):MulF a b:=by
 have da:FDig 9 a:=ha.dig (by decide) (by decide) (by decide)
 have db:FDig 9 b:=hb.dig (by decide) (by decide) (by decide)
 have ra:=rad_gr ha (n:=6) (by omega)
 have rb:=rad_gr hb (n:=6) (by omega)
 have e9:QDig 9 (rad a):=ra.dig (by decide) (by decide) (by decide)
 have f9:QDig 9 (rad b):=rb.dig (by decide) (by decide) (by decide)
 have s9:QDig 9 (absQ b.c * a.r+absQ a.c * b.r):=((hb.c.abs.mul ha.r).add (ha.c.abs.mul hb.r)).dig (by decide) (by decide) (by decide)
 have p9:QDig 9 (rad a * rad b):=(ra.mul rb).dig (by decide) (by decide) (by decide)
 exact ⟨LinF.of db.c da.c da db (by decide) (comb_len oa ob (by omega)),MF.of da.c db.c (by decide),RadF.of ha (n:=6) (by omega) (by decide) (by decide +kernel) (by decide +kernel),RadF.of hb (n:=6) (by omega) (by decide) (by decide +kernel) (by decide +kernel),MF.of e9 f9 (by decide),AF.of s9 p9 (by decide)⟩
theorem RangeF.made {f:Frm} (h:FGr 4 80 f) (lf:f.t.length≤5):RangeF f:=RangeF.of h (n:=6) (by omega) (by decide) (by decide +kernel) (by decide +kernel)
theorem midTo_gr {d m:Nat} {vs l:List Trm} {c:Rat} (hc:Gr d m c) (hl:∀ p,p ∈ l→Gr d m p.c) (hv:∀ p,p ∈ vs→Gr 8 8 p.c):∀ k,k≤l.length→Gr (d * 8) ((k+1) * (m * 8)) (midTo vs c l k)
 | 0,_=>(hc.fine 8).mono (by omega)
 | k+1,hk=>by
  have i1:=midTo_gr hc hl hv k (by omega)
  cases h:look vs (trD l k).s with
  | none=>rw [mid_none h];exact i1.mono (by rw [Nat.succ_mul (k+1)];omega)
  | some v =>
   rw [mid_some h]
   obtain ⟨p,hp, -,rfl⟩:=look_mem h
   exact (i1.add ((hl _ (trD_mem (show k<l.length by omega))).mul (hv p hp))).mono (by rw [Nat.succ_mul (k+1)];omega)
theorem atF_of {d m n:Nat} {f:Frm} {vs:List Trm} (hf:FGr d m f) (hv:∀ p,p ∈ vs→Gr 8 8 p.c) (hn:f.t.length+1≤n) (hd:0<d) (h1:d * 8<10 ^ 98) (h2:n * (m * 8)<10 ^ 98):AtF f vs:=by
 have hp:∀ k,k≤f.t.length→(k+1) * (m * 8)<10 ^ 98:=fun k hk=>Nat.lt_of_le_of_lt (Nat.mul_le_mul_right _ (by omega)) h2
 have hm:∀ k,k≤f.t.length→QDig 98 (midTo vs f.c f.t k):=fun k hk=>(midTo_gr hf.c hf.t hv k hk).dig (by omega) h1 (hp k hk)
 have lo:(others vs f.t).length≤f.t.length:=List.length_filter_le _ _
 have ho:FGr d m ⟨0,others vs f.t,f.r⟩:=⟨(Gr.zero d).mono (Nat.zero_le _),fun p hp=>hf.t p (List.mem_filter.1 hp).1,hf.r⟩
 have hnm:n * m≤n * (m * 8):=Nat.mul_le_mul_left _ (by omega)
 have hr:QDig 98 (rad ⟨0,others vs f.t,f.r⟩):=(rad_gr ho (n:=n) (show (others vs f.t).length+1≤n by omega)).dig hd (by omega) (by omega)
 have hm8:=hp 0 (Nat.zero_le _)
 refine ⟨fun k hk v h => ?_,fun k hk v h => ?_,RadF.of ho (n:=n) (show (others vs f.t).length+1≤n by omega) hd (Nat.lt_trans (show d<10 ^ 98 by omega) (by decide +kernel)) (Nat.lt_trans (show n * m<10 ^ 98 by omega) (by decide +kernel)),SF.of (hm _ (Nat.le_refl _)) hr (by decide),AF.of (hm _ (Nat.le_refl _)) hr (by decide)⟩
 ·obtain ⟨p,hp', -,rfl⟩:=look_mem h
  exact MF.of (j:=98) (k:=98) ((hf.t _ (trD_mem hk)).dig hd (by omega) (by omega)) ((hv p hp').dig (by decide) (by decide +kernel) (by decide +kernel)) (by decide)
 ·obtain ⟨p,hp', -,rfl⟩:=look_mem h
  exact AF.of (j:=98) (k:=98) (hm k (by omega)) (((hf.t _ (trD_mem hk)).mul (hv p hp')).dig (by omega) h1 (by omega)) (by decide)
theorem atF_made {f:Frm} {vs:List Trm} (hf:FGr 4 80 f) (hv:∀ p,p ∈ vs→Gr 8 8 p.c) (lf:f.t.length≤5):AtF f vs:=atF_of hf hv (n:=6) (by omega) (by decide) (by decide +kernel) (by decide +kernel)
theorem cf_gr {d m:Nat} {l:List Trm} (h:∀ p,p ∈ l→Gr d m p.c) (id:Nat):Gr d m (cf l id):=by
 unfold cf
 cases e:look l id with
 | none=>exact (Gr.zero d).mono (Nat.zero_le _)
 | some v=>obtain ⟨p,hp, -,rfl⟩:=look_mem e;exact h p hp
theorem covTo_gr {d m e s:Nat} {a b ss:List Trm} (ha:∀ p,p ∈ a→Gr d m p.c) (hb:∀ p,p ∈ b→Gr e s p.c) (hs:∀ p,p ∈ ss→Gr 8 8 p.c):∀ k,k≤ss.length→Gr (d * e * 8) (k * (m * s * 8)) (covTo a b ss k)
 | 0,_=>(Gr.zero _).mono (Nat.zero_le _)
 | k+1,hk=>by
  have i1:=covTo_gr ha hb hs k (by omega)
  exact (i1.add (((cf_gr ha _).mul (cf_gr hb _)).mul (hs _ (trD_mem (show k<ss.length by omega))))).mono (Nat.le_of_eq (Nat.succ_mul _ _).symm)
theorem CovF.of {d m e s:Nat} {a b ss:List Trm} (ha:∀ p,p ∈ a→Gr d m p.c) (hb:∀ p,p ∈ b→Gr e s p.c) (hs:∀ p,p ∈ ss→Gr 8 8 p.c) (ls:ss.length≤6) (hd:0<d) (he:0<e)
  (h1:d<10 ^ 9) (h2:m<10 ^ 9) (h3:e<10 ^ 9) (h4:s<10 ^ 9) (h5:d * e<10 ^ 9) (h6:m * s<10 ^ 9) (h7:d * e * 8<10 ^ 9) (h8:6 * (m * s * 8)<10 ^ 9):CovF a b ss:=by
 have hp:=Nat.mul_pos hd he
 refine ⟨fun k hk=>MF.of (j:=9) (k:=9) ((cf_gr ha _).dig hd h1 h2) ((cf_gr hb _).dig he h3 h4) (by decide),fun k hk=>MF.of (j:=9) (k:=9) (((cf_gr ha _).mul (cf_gr hb _)).dig hp h5 h6) ((hs _ (trD_mem hk)).dig (by decide) (by decide) (by decide)) (by decide),fun k hk => ?_⟩
 have h9:k * (m * s * 8)≤6 * (m * s * 8):=Nat.mul_le_mul_right _ (by omega)
 have h10:m * s * 8≤6 * (m * s * 8):=Nat.le_mul_of_pos_left _ (by decide)
 exact AF.of (j:=9) (k:=9) ((covTo_gr ha hb hs k (by omega)).dig (by omega) h7 (by omega)) ((((cf_gr ha _).mul (cf_gr hb _)).mul (hs _ (trD_mem hk))).dig (by omega) h7 (by omega)) (by decide)
theorem covTo_dig {d m e s:Nat} {a b ss:List Trm} (ha:∀ p,p ∈ a→Gr d m p.c) (hb:∀ p,p ∈ b→Gr e s p.c) (hs:∀ p,p ∈ ss→Gr 8 8 p.c) (ls:ss.length≤6) (hd:0<d * e * 8) (h7:d * e * 8<10 ^ 9) (h8:6 * (m * s * 8)<10 ^ 9):QDig 9 (covTo a b ss ss.length):=by
 have h9:ss.length * (m * s * 8)≤6 * (m * s * 8):=Nat.mul_le_mul_right _ ls
 exact (covTo_gr ha hb hs _ (Nat.le_refl _)).dig hd h7 (by omega)
/-! The values, the ends and the sources that integers determine. -/
theorem vTo_vals (x:Nat→Int) {k:Nat} (hk:k≤6):ValsOk (vTo x k):=⟨by rw [vTo_len];omega,vTo_src x (by omega),vTo_between x k,fun p hp=>(vTo_gr x k p hp).dig (by decide) (by decide +kernel) (by decide +kernel)⟩
theorem sTo_srcs (x:Nat→Int):SrcsOk (sTo x 6):=⟨by rw [sTo_len];omega,sTo_src x (by omega),sTo_between x 6,fun p hp=>(sTo_gr x 6 p hp).dig (by decide) (by decide +kernel) (by decide +kernel)⟩
theorem known_six {x:Nat→Int} {l:List Trm} (h:∀ p,p ∈ l→1≤p.s∧p.s≤6):KnownBy (sTo x 6) l:=fun t ht=>by
 obtain ⟨h1,h2⟩:=h t ht
 refine ⟨t.s - 1,by rw [sTo_len];omega,?_⟩
 rw [trD_get (by rw [sTo_len];omega)]
 simp [sTo]
 omega
theorem vTo_take (x:Nat→Int) {k n:Nat} (h:k≤n):(vTo x n).take k=vTo x k:=by
 unfold vTo
 rw [← List.map_take,List.take_range,Nat.min_eq_left h]
theorem ends_gr {l:List Trm} {up:Int} (hu:up=1∨up = -1):∀ p,p ∈ ends l up→Gr 8 8 p.c:=fun p hp=>by
 unfold ends at hp
 obtain ⟨t, -,rfl⟩:=List.mem_map.1 hp
 have h1:(up * sgn t.c).natAbs≤1:=by unfold sgn;rcases hu with rfl | rfl <;> split <;> decide
 exact ((Gr.ofInt (d:=1) (m:=1) (by decide) h1).fine 8).cast (by decide) (by decide)
theorem ends_len (l:List Trm) (up:Int):(ends l up).length=l.length:=by unfold ends;rw [List.length_map]
theorem ends_vals {l:List Trm} (h:SrcOk l) (hl:l.length≤5) {up:Int} (hu:up=1∨up = -1):ValsOk (ends l up):=⟨by rw [ends_len];omega,ends_src h up,ends_unit up hu,fun p hp=>(ends_gr hu p hp).dig (by decide) (by decide +kernel) (by decide +kernel)⟩
theorem ends_succ {l:List Trm} {i:Nat} (h:i<l.length) (up:Int):ends (l.take (i+1)) up=ends (l.take i) up ++ [⟨(trD l i).s,Rat.divInt (up * sgn (trD l i).c) 1⟩]:=by
 unfold ends
 rw [take_trD h,List.map_append];rfl
theorem at_idig {f:Frm} {vs:List Trm} (h:AtF f vs):IDig 200 (atI f vs):=⟨h.lo.dig,h.hi.dig⟩
theorem range_idig {f:Frm} (h:RangeF f):IDig 200 (rangeI f):=⟨h.lo.dig,h.hi.dig⟩
theorem lin_six {p q:Rat} {a b:List Trm} (ha:SrcOk a) (hb:SrcOk b) (h1:∀ p,p ∈ a→p.s≤6) (h2:∀ p,p ∈ b→p.s≤6):∀ t,t ∈ lin p q a b→t.s≤6:=fun t ht=>by
 by_cases h:t.s≤6
 ·exact h
 ·exfalso
  have e1:=cf_mem (lin_src ha hb) ht
  rw [lin_cf ha hb,cf_none (fun u hu he=>h (by rw [← he];exact h1 u hu)),cf_none (fun u hu he=>h (by rw [← he];exact h2 u hu)),Rat.mul_zero,Rat.mul_zero,Rat.add_zero] at e1
  exact lin_nz ha hb t ht e1.symm
theorem mForm_six (c r:Int) (x:Nat→Int):∀ p,p ∈ (mForm c r x).t→1≤p.s∧p.s≤6:=fun p hp=>⟨(mTo_mem x 6 p hp).1,(mTo_mem x 6 p hp).2.1⟩
end Go.Proofs.YtnokpldomlmamaaGreatDoor
