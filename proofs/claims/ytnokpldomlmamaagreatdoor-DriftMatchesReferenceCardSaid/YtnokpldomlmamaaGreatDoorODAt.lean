/-
 drift.At at valid histories: what is known at a time, or that nothing is.
-/
import Derived.Test.YtnokpldomlmamaaGreatDoorODPairs
import Derived.Test.YtnokpldomlmamaaGreatDoorODPlain3
set_option linter.unusedSimpArgs false
set_option linter.unusedVariables false
set_option maxRecDepth 100000
set_option maxHeartbeats 16000000
namespace Go.Proofs.YtnokpldomlmamaaGreatDoor
open Go Go.RowKit Go.Lib Go.Shelf
attribute [local go_sem] Oper.semAt_some normalQ
theorem ownFrom_row {β:Type} (B b:Nat) (vs:Array Value) (t:TypeId):OwnFrom B (fun (_:β) W=>Row W b (.cells vs t)):=fun s W W' row hs hg hr =>
 ⟨Nat.lt_of_lt_of_le hs.1 hg.size,(hg.block b hs.1 (fun e=>by obtain ⟨_,o,ho,hc⟩:=hr b e.symm;rw [hs.2] at ho;cases ho;cases hc)).trans hs.2⟩
theorem pairs_stops {r:Rat} {l:List Pt} (ho:Hist.Ok ⟨r,l⟩) (n:Nat) (hn:1≤n) (bh:Nat) (p:Option Addr) (m c:Nat) (hm:l.length=m) (E w:World) (heE:Env E) (hE:Below E.heap.size E w)
  (rh:Row w bh (.cells #[.string (S r.num),.string (S (r.den:Int)),.slice p m c] 26)) (hp:PAt w p l) :
  SeqStopsK Fence.wide n Tryz.prog 130 #[.pointer (some ⟨bh,0,none⟩)] encP (KpP E.heap.size) (fun xs=>xs=cons ⟨r,l⟩) (fun _=>cons ⟨r,l⟩≠[]) 4096 w:=fun y J Jx W hW hJ _ hY h0 =>
 callsIn_wide.2 (pairs1_in ho n hn y bh p m c hm E W heE (hE.trans (hW.mono hE.size)) J Jx hJ hY (Row.below rh hW) (PAt.below hp hW) h0)
/-- What stands where a function with a range over a function is left. -/
theorem marks_ret {P:Program} {fn:Func} {R:Ending→World→Prop} {n D:Nat} {a:Act} {w:World} {v:Value} (hd:a.defers=[{ target := .collected D,args:=#[] }]) (hK:Row w D (.deferred (some [])))
  (hr:(results fn a.tmps).run P (w.putObj D (.deferred none)) = .ok v (w.putObj D (.deferred none))) (h:R (.returned v) (w.putObj D (.deferred none))):bodyPostM Fence.wide n P fn R .ret a w:=by
 show LeavesInM Fence.wide n P fn a.tmps R a.defers .returning w
 rw [hd]
 exact ⟨by simp,.inl ⟨_,_,rfl,run_takeDeferred hK.2,v,hr,h⟩⟩
theorem calls_marks {P:Program} {f:FuncId} {fn:Func} {c:Code} {args:Array Value} {w:World} {R:Ending→World→Prop} (hf:P.funcs[f]? = some fn) (hb:fn.body=some c)
  (h:∀ Q0:Exit→Act→World→Prop,Hid (Q0=bodyPostM Fence.wide 3 P fn R)→c.wp P Q0 { tmps:=args ++ Array.replicate (fn.ntmps - args.size) undef,defers:=[] } w):Calls P f args w R :=
 (callsIn_wide (n:=3)).1 (callsIn_of_wp_marks hf hb trivial (wpIn_wide.2 (h _ (Lib.hid rfl))) rfl)
theorem postM_cut {P:Program} {fn:Func} {R:Ending→World→Prop} {n:Nat} {ex:Exit} {a:Act} {w:World} (p:World→Prop) (h0:p w) (h:∀ W,p W→bodyPostM Fence.wide n P fn R ex a W):bodyPostM Fence.wide n P fn R ex a w:=h w h0
theorem Row.putObj {W:World} {b D:Nat} {o o':Obj} (h:Row W b o) (hne:b≠D):Row (W.putObj D o') b o:=⟨by simpa using h.1,(World.putObj_heap_other hne).trans h.2⟩
theorem below_putObj {w W:World} {D:Nat} {o:Obj} (h:Below w.heap.size w W) (hD:w.heap.size≤D):Below w.heap.size w (W.putObj D o) :=
 h.grown (grownBy_putObj' W D o) h.size (fun k e=>by cases e;exact hD)
theorem dpairs (r:Rat) (p:Option Addr) (m c:Nat) (w:World):Calls Tryz.prog 50 #[.agg #[.string (S r.num),.string (S (r.den:Int)),.slice p m c]] w fun e w'=>∃ b,e = .returned (.func (.func 130) #[] #[.pointer (some ⟨b,0,none⟩)])∧w.heap.size≤b∧Row w' b (.cells #[.string (S r.num),.string (S (r.den:Int)),.slice p m c] 26)∧Below w.heap.size w w':=by
 have hB:Below w.heap.size w w:=Below.refl _ _
 go_enter Tryz.func50, Tryz.ntmps50
 go_wp2
 go_ret
 exact ⟨_,rfl,Nat.le_refl _,RWh,BW⟩
theorem dbetterS_true (x1 x2 y1 y2:ByteArray) (w:World):Calls Tryz.prog 52 #[.agg #[.string x1,.string x2],.agg #[.string y1,.string y2],.bool true] w (fun e w'=>e = .returned (.agg #[.string x1,.string x2])∧Below w.heap.size w w'):=by
 have hB:Below w.heap.size w w:=Below.refl _ _
 go_enter Tryz.func52, Tryz.ntmps52
 go_wp2_with fail
 have sB:=hB.size
 refine post_cut (fun X=>Below w.heap.size w X∧Row X (w.heap.size+1+1) (.cells #[.string x1,.string x2] 23)) ⟨BW,RWh⟩ ?_
 clear hB sB
 rintro V1 ⟨hB,ro⟩
 have so:=RFz2 ro
 refine bodyPost_ret (v := .agg #[.string x1,.string x2]) ?res rfl ⟨rfl,hB⟩
 case res=>simp [results,Tryz.results52, go_sem,so]
theorem dbetterS_false (x1 x2 y1 y2:ByteArray) (w:World):Calls Tryz.prog 52 #[.agg #[.string x1,.string x2],.agg #[.string y1,.string y2],.bool false] w (fun e w'=>e = .returned (.agg #[.string y1,.string y2])∧Below w.heap.size w w'):=by
 have hB:Below w.heap.size w w:=Below.refl _ _
 go_enter Tryz.func52, Tryz.ntmps52
 go_wp2_with fail
 have sB:=hB.size
 refine post_cut (fun X=>Below w.heap.size w X∧Row X (w.heap.size+1+1) (.cells #[.string y1,.string y2] 23)) ⟨BW,RWh⟩ ?_
 clear hB sB
 rintro V1 ⟨hB,ro⟩
 have so:=RFz2 ro
 refine bodyPost_ret (v := .agg #[.string y1,.string y2]) ?res rfl ⟨rfl,hB⟩
 case res=>simp [results,Tryz.results52, go_sem,so]
theorem dbetter_if (x y:Rat) (b:Bool) (w:World):Calls Tryz.prog 52 #[.agg #[.string (S x.num),.string (S (x.den:Int))],.agg #[.string (S y.num),.string (S (y.den:Int))],.bool b] w (fun e w'=>e = .returned (.agg #[.string (S (if b then x else y).num),.string (S ((if b then x else y).den:Int))])∧Below w.heap.size w w'):=by
 cases b
 ·exact dbetterS_false _ _ _ _ w
 ·exact dbetterS_true _ _ _ _ w
def AtPost (r:Rat) (l:List Pt) (t:Nat) (w:World) (e:Ending) (w':World):Prop:=((Free ⟨r,l⟩∧∃ o,Knows ⟨r,l⟩ t o∧e = .returned (.tuple #[.agg #[.string (S o.lo.num),.string (S (o.lo.den:Int)),.string (S o.hi.num),.string (S (o.hi.den:Int))],.int .i64 0]))∨(¬ Free ⟨r,l⟩∧e = .returned (.tuple #[.agg #[.string ⟨#[]⟩,.string ⟨#[]⟩,.string ⟨#[]⟩,.string ⟨#[]⟩],.int .i64 120])))∧Below w.heap.size w w'
theorem isLo_take {r:Rat} {t i:Nat} {l:List Pt} (hi:i<l.length):l.take (i+1)=l.take i ++ [ptD l i]:=by
 have:ptD l i=l[i]:=by unfold ptD;rw [List.getD_eq_getElem?_getD,List.getElem?_eq_getElem hi];rfl
 rw [this,List.take_succ_eq_append_getElem hi]
theorem knows_first {r:Rat} {l:List Pt} (t:Nat) (hl:0<l.length):Knows ⟨r,l.take (0+1)⟩ t ⟨lowAt r t (ptD l 0),highAt r t (ptD l 0)⟩:=by
 rw [isLo_take (r:=r) (t:=t) hl,List.take_zero,List.nil_append]
 exact ⟨IsLo.one _ _ _,IsHi.one _ _ _⟩
theorem knows_next {r:Rat} {l:List Pt} {t i:Nat} {o:Iv} (hi:i<l.length) (h:Knows ⟨r,l.take i⟩ t o) :
  Knows ⟨r,l.take (i+1)⟩ t ⟨if decide (0<cmpQ (lowAt r t (ptD l i)) o.lo) then lowAt r t (ptD l i) else o.lo,if decide (cmpQ (highAt r t (ptD l i)) o.hi<0) then highAt r t (ptD l i) else o.hi⟩:=by
 rw [isLo_take (r:=r) (t:=t) hi]
 obtain ⟨h1,h2⟩:=h
 constructor
 ·show IsLo r t _ _
  simp only [decide_eq_true_eq,cmpQ_gt]
  split
  ·rename_i hc;exact h1.snoc_gt hc
  ·rename_i hc;exact h1.snoc_le (Rat.not_lt.1 hc)
 ·show IsHi r t _ _
  simp only [decide_eq_true_eq,cmpQ_lt]
  split
  ·rename_i hc;exact h2.snoc_lt hc
  ·rename_i hc;exact h2.snoc_ge (Rat.not_lt.1 hc)
theorem dist_max (a b:Nat):max ((a:Int) - (b:Int)) ((b:Int) - (a:Int))=((dist a b:Nat):Int):=by unfold dist;omega
theorem dat {r:Rat} {l:List Pt} (ho:Hist.Ok ⟨r,l⟩) {t:Nat} (ht:t≤1000000) (p:Option Addr) (m c:Nat) (hm:l.length=m) (hpos:0<m) (w:World) (hp:PAt w p l) (he:Env w) :
  Calls Tryz.prog 11 #[.agg #[.string (S r.num),.string (S (r.den:Int)),.slice p m c],.int .i64 (t:Int)] w (AtPost r l t w):=by
 have hB:Below w.heap.size w w:=Below.refl _ _
 have MV:=fun W (hp:PAt W p l) (H:Env W)=>dvalid ho p m c hm W hp H
 have MP:=fun W=>dpairs r p m c W
 have hfew:=ho.few
 simp only [hm] at hfew
 have hm0:¬ ((m:Int)=0):=by omega
 have ht0:decide ((t:Int)<0)=false:=decide_eq_false (by omega)
 have ht1:decide (1000000<(t:Int))=false:=decide_eq_false (by omega)
 have HP:=Lib.hid hp
 have HO:=Lib.hid ho
 have HM:=Lib.hid hm
 have HT:=Lib.hid ht
 unfold BoolOk HV at MV
 simp only at MV
 clear ho hm hp ht hpos
 refine calls_marks Tryz.func11 rfl fun Q0 HQ0 => ?_
 simp only [Tryz.ntmps11, List.size_toArray,List.length_cons,List.length_nil,Nat.reduceAdd,Nat.reduceSub,Array.replicate_succ,Array.replicate_zero,List.push_toArray,List.append_toArray,List.nil_append,List.cons_append]
 go_wp2_with fail
 have d0_o:w.heap.size≤w.heap.size+1:=by have:=hB.size;omega
 have d0_e:w.heap.size≤w.heap.size+1+1:=by have:=hB.size;omega
 have sB:=hB.size
 refine world_cut (fun X=>Below w.heap.size w X∧Row X w.heap.size (.cells #[.string (S r.num),.string (S (r.den:Int)),.slice p m c] 26)∧Row X (w.heap.size+1) (.cells #[.string ⟨#[]⟩,.string ⟨#[]⟩,.string ⟨#[]⟩,.string ⟨#[]⟩] 30)∧Row X (w.heap.size+1+1) (.cells #[.int .i64 0] 40)) ⟨BW,RWh,RWh,RWh⟩ ?_
 clear hB sB
 rintro V1 ⟨hB,rh,ro,re⟩
 have sh:=RF3 rh
 have so:=RFz4 ro
 have se:=RFz1 re
 refine (MV _ (HP.out.below hB) (he.below hB)).mono ?_
 rintro e W2 ⟨rfl,h1⟩
 clear sh
 clear so
 clear se
 replace hB:=hB.trans (h1.mono hB.size)
 replace rh:=Row.below rh h1
 replace ro:=Row.below ro h1
 replace re:=Row.below re h1
 clear h1
 have sh:=RF3 rh
 have so:=RFz4 ro
 have se:=RFz1 re
 go_wp2_with fail
 refine (MP _).mono ?_
 rintro e W3 ⟨pb,rfl,hpb,rpb,h1⟩
 clear sh
 clear so
 clear se
 replace hB:=hB.trans (h1.mono hB.size)
 replace rh:=Row.below rh h1
 replace ro:=Row.below ro h1
 replace re:=Row.below re h1
 clear h1
 have sh:=RF3 rh
 have so:=RFz4 ro
 have se:=RFz1 re
 have spb:=RF3 rpb
 go_wp2_with fail
 have sB:=hB.size
 refine (wpIn_wide (n:=3)).1 ?_
 refine wpIn_rangeFunc_ownG rfl (by omega) (gf := 130) (lb:=#[.pointer (some ⟨pb,0,none⟩)]) rfl trivial (enters_of Tryz.func130 (by kernel_rfl) rfl)
  (pairs_stops HO.out 2 (by omega) pb p m c HM.out w W3 he hB rpb (HP.out.below hB)) KpP.trans (KpP.book hB.size) (Below.refl _ _) (fun _=>rfl)
  (fun pre W=>((pre=[]∧Row W w.heap.size (.cells #[.string (S r.num),.string (S (r.den:Int)),.slice p m c] 26)∧Row W (w.heap.size+1) (.cells #[.string ⟨#[]⟩,.string ⟨#[]⟩,.string ⟨#[]⟩,.string ⟨#[]⟩] 30)∧Row W (w.heap.size+1+1) (.cells #[.int .i64 0] 40))∧Below w.heap.size w W))
  (fun cd pre W=>((cd = .ret∧Row W (w.heap.size+1) (.cells #[.string ⟨#[]⟩,.string ⟨#[]⟩,.string ⟨#[]⟩,.string ⟨#[]⟩] 30)∧Row W (w.heap.size+1+1) (.cells #[.int .i64 120] 40))∧Below w.heap.size w W))
  (OwnFrom.and (OwnFrom.and (ownFrom_pure _ _) (OwnFrom.and (ownFrom_row _ _ _ _) (OwnFrom.and (ownFrom_row _ _ _ _) (ownFrom_row _ _ _ _)))) (ownFrom_below (Nat.le_refl _) (by omega))) (fun cd=>OwnFrom.and (OwnFrom.and (ownFrom_pure _ _) (OwnFrom.and (ownFrom_row _ _ _ _) (ownFrom_row _ _ _ _))) (ownFrom_below (Nat.le_refl _) (by omega)))
  ⟨⟨rfl,rh,ro,re⟩,hB⟩
  ?a1 ?assign ?body ?done ?stop
 case assign =>
  intro q x W K hK
  unfold encP
  gi_wp2
  exact hK
 case body =>
  rintro q pre x W ⟨⟨rfl,rh,ro,re⟩,hB2⟩ hlt
  have o0:=Row.cell_at ro 0 rfl
  have o1:=Row.cell_at ro 1 rfl
  have o2:=Row.cell_at ro 2 rfl
  have o3:=Row.cell_at ro 3 rfl
  have e0:=Row.cell_at re 0 rfl
  have fo0:=frozen_of_row _ _ 0 _ _ ro.2
  have fo1:=frozen_of_row _ _ 1 _ _ ro.2
  have fo2:=frozen_of_row _ _ 2 _ _ ro.2
  have fo3:=frozen_of_row _ _ 3 _ _ ro.2
  have fe0:=frozen_of_row _ _ 0 _ _ re.2
  have so:=ro.1
  have se:=re.1
  gi_wp2
  have sB2:=hB2.size
  refine ⟨?kf,⟨rfl,RWh,RWh⟩,BW⟩
  case kf=>repeat (first | exact KeepsFrom.refl _ _ | refine KeepsFrom.trans ?_ ((KeepsOthers.setCell _ _ _).from _))
 case stop =>
  rintro DD cd pre W hD hne ⟨⟨rfl,ro2,re2⟩,hB2⟩ hKD
  gi_wp2
  rw [HQ0.out]
  refine ⟨by simp,.inl ⟨_,_,rfl,run_takeDeferred hKD,?_⟩⟩
  have ro3:=Row.putObj (D:=DD) (o' := .deferred none) ro2 (by have:=ro.1;omega)
  have re3:=Row.putObj (D:=DD) (o' := .deferred none) re2 (by have:=re.1;omega)
  have o0:=Row.cell_at ro3 0 rfl
  have o1:=Row.cell_at ro3 1 rfl
  have o2:=Row.cell_at ro3 2 rfl
  have o3:=Row.cell_at ro3 3 rfl
  have e0:=Row.cell_at re3 0 rfl
  refine ⟨.tuple #[.agg #[.string ⟨#[]⟩,.string ⟨#[]⟩,.string ⟨#[]⟩,.string ⟨#[]⟩],.int .i64 120],?_,.inr ⟨fun hf=>hne ((cons_nil HO.out).2 hf),rfl⟩,below_putObj hB2 (by omega)⟩
  simp [results,Tryz.results11, go_sem,o0,o1,o2,o3,e0]
 case done =>
  rintro DD ys WD hD hys ⟨⟨rfl,rh2,ro2,re2⟩,hB2⟩ hKD
  have hDl:w.heap.size+1+1<DD:=Nat.lt_of_lt_of_le re.1 hD
  have hfree:Free ⟨r,l⟩:=(cons_nil HO.out).1 hys.symm
  have HF:=Lib.hid hfree
  clear hfree hys hD
  clear hB sB rh ro re rpb sh so se spb
  have rD:Row WD DD (.deferred (some [])):=⟨(Array.getElem?_eq_some_iff.1 hKD).1,hKD⟩
  clear hKD
  have hB:=hB2
  clear hB2
  have rh:=rh2
  clear rh2
  have ro:=ro2
  clear ro2
  have re:=re2
  clear re2
  skip
  have sh:=RF3 rh
  have so:=RFz4 ro
  have se:=RFz1 re
  have FD:∀ X,Row X DD (.deferred (some []))→(DD<X.heap.size):=fun X h=>h.1
  have sD:=FD _ rD
  have hml:0<l.length:=by have:=HM.out;omega
  go_wp2_with fail
  have dh_out:w.heap.size<WD.heap.size:=by omega
  have do_out:w.heap.size+1<WD.heap.size:=by omega
  have de_out:w.heap.size+1+1<WD.heap.size:=by omega
  have dD_out:DD<WD.heap.size:=by omega
  have d0_out:w.heap.size≤WD.heap.size:=by have:=hB.size;omega
  have sB:=hB.size
  refine wp_cut (fun X=>Below w.heap.size w X∧Row X w.heap.size (.cells #[.string (S r.num),.string (S (r.den:Int)),.slice p m c] 26)∧Row X (w.heap.size+1) (.cells #[.string ⟨#[]⟩,.string ⟨#[]⟩,.string ⟨#[]⟩,.string ⟨#[]⟩] 30)∧Row X (w.heap.size+1+1) (.cells #[.int .i64 0] 40)∧Row X DD (.deferred (some []))∧Row X WD.heap.size (.cells #[.string ⟨#[]⟩,.string ⟨#[]⟩,.string ⟨#[]⟩,.string ⟨#[]⟩] 30)) ⟨BW,RWh,RWh,RWh,RWh,RWh⟩ ?_
  clear rh
  clear sh
  clear ro
  clear so
  clear re
  clear se
  clear rD
  clear sD
  clear hB sB
  rintro V4 ⟨hB,rh,ro,re,rD,rout⟩
  have sh:=RF3 rh
  have so:=RFz4 ro
  have se:=RFz1 re
  have sD:=FD _ rD
  have sout:=RFz4 rout
  clear sh
  clear so
  clear se
  clear sD
  clear sout
  generalize hob:WD.heap.size=ob at rout
  have hobD:DD<ob:=by omega
  clear hob
  go_loopw [41] (fun v41 wr=>∃ (i:Nat) (a1 a2 b1 b2:ByteArray),v41 = .int .i64 (i:Int)∧i≤m∧(i=0→a1=⟨#[]⟩)∧(i≠0→∃ o,Knows ⟨r,l.take i⟩ t o∧a1=S o.lo.num∧a2=S (o.lo.den:Int)∧b1=S o.hi.num∧b2=S (o.hi.den:Int))∧Below w.heap.size w wr∧Row wr ob (.cells #[.string a1,.string a2,.string b1,.string b2] 30)∧Row wr w.heap.size (.cells #[.string (S r.num),.string (S (r.den:Int)),.slice p m c] 26)∧Row wr (w.heap.size+1) (.cells #[.string ⟨#[]⟩,.string ⟨#[]⟩,.string ⟨#[]⟩,.string ⟨#[]⟩] 30)∧Row wr (w.heap.size+1+1) (.cells #[.int .i64 0] 40)∧Row wr DD (.deferred (some []))) (fun v41 _=>(m - RowKit.intOf v41).toNat)
  case atStart=>exact ⟨0,_,_,_,_,rfl,Nat.zero_le _,fun _=>rfl,fun h=>absurd rfl h,hB,rout,rh,ro,re,rD⟩
  case round =>
   clear hB rout rh ro re rD
   obtain ⟨i,a1,a2,b1,b2,rfl,him, -,hk,hB,rout,rh,ro,re,rD⟩:=hrel
   rcases Nat.lt_or_ge i m with hlt | hge
   ·have hil:i<l.length:=by rw [HM.out];exact hlt
    obtain ⟨q,hq⟩:∃ q,q=ptD l i:=⟨_,rfl⟩
    have hmq:q ∈ l:=hq ▸ ptD_mem hil
    have hiI:(i:Int)<(m:Int):=by omega
    obtain ⟨g,cur,rfl,rgw,g0,g1,g2,g3,g4⟩:=PAt.at HP.out hil
    have hgw:=rgw.1
    have rg:=Row.below rgw hB
    clear rgw
    rw [← hq] at g0 g1 g2 g3 g4
    have HQ:=Lib.hid hq
    clear hq
    have sh:=RF3 rh
    have so:=RFz4 ro
    have se:=RFz1 re
    have sD:=FD _ rD
    have sout:=RFz4 rout
    have Fg:∀ X,Row X g (.cells cur 32)→(g<X.heap.size∧X.cell? ⟨g,i * 5,none⟩=some (.int .i64 (q.t:Int))∧X.cell? ⟨g,i * 5+1,none⟩=some (.string (S q.iv.lo.num))∧X.cell? ⟨g,i * 5+2,none⟩=some (.string (S (q.iv.lo.den:Int)))∧X.cell? ⟨g,i * 5+3,none⟩=some (.string (S q.iv.hi.num))∧X.cell? ⟨g,i * 5+4,none⟩=some (.string (S (q.iv.hi.den:Int)))):=fun X h=>⟨h.1,Row.cell_at h _ g0,Row.cell_at h _ g1,Row.cell_at h _ g2,Row.cell_at h _ g3,Row.cell_at h _ g4⟩
    have sg:=Fg _ rg
    have hqt:=HO.out.times q hmq
    have dF:=far_dig HO.out.rdig (d:=dist t q.t) (dist_bound HT.out hqt)
    have hdd:dist t q.t≤1000000:=dist_bound HT.out hqt
    have dL:=lowAt_dig (t:=t) HO.out.rdig (HO.out.ivs q hmq).2 HT.out hqt
    have dH:=highAt_dig (t:=t) HO.out.rdig (HO.out.ivs q hmq).2 HT.out hqt
    have MR:=fun W (H:Env W)=>dreach HO.out.rdig hdd (by omega) W H
    have ML:=fun W (H:Env W)=>qsub (HO.out.ivs q hmq).2.1 dF (by omega) W H
    have MH:=fun W (H:Env W)=>qadd (HO.out.ivs q hmq).2.2 dF (by omega) W H
    have hif:=dist_max t q.t
    have hw1:IntKind.i64.wrap ((t:Int) - (q.t:Int))=(t:Int) - (q.t:Int):=by rw [IntKind.wrap_i64];have:=HT.out;omega
    have hw2:IntKind.i64.wrap ((q.t:Int) - (t:Int))=(q.t:Int) - (t:Int):=by rw [IntKind.wrap_i64];have:=HT.out;omega
    try simp only at ML MH dL dH dF
    rw [show q.iv.lo - far r (dist t q.t)=lowAt r t q from rfl] at ML
    rw [show q.iv.hi+far r (dist t q.t)=highAt r t q from rfl] at MH
    unfold QOk Q at MR ML MH
    have HKn:=Lib.hid hk
    clear hk
    generalize hlo:lowAt r t q=xl at *
    generalize hhi:highAt r t q=xh at *
    have HLO:=Lib.hid hlo
    have HHI:=Lib.hid hhi
    clear hlo hhi
    generalize far r (dist t q.t)=fr at *
    generalize hdi:dist t q.t=dd at *
    clear hdi hdd dF hmq hqt
    go_wp2_with fail
    have do_q:w.heap.size+1<wr.heap.size:=by omega
    have de_q:w.heap.size+1+1<wr.heap.size:=by omega
    have dout_q:ob<wr.heap.size:=by omega
    have sB:=hB.size
    refine world_cut (fun X=>Below w.heap.size w X∧Row X w.heap.size (.cells #[.string (S r.num),.string (S (r.den:Int)),.slice (some ⟨g,0,none⟩) m c] 26)∧Row X (w.heap.size+1) (.cells #[.string ⟨#[]⟩,.string ⟨#[]⟩,.string ⟨#[]⟩,.string ⟨#[]⟩] 30)∧Row X (w.heap.size+1+1) (.cells #[.int .i64 0] 40)∧Row X DD (.deferred (some []))∧Row X ob (.cells #[.string a1,.string a2,.string b1,.string b2] 30)∧Row X g (.cells cur 32)∧Row X wr.heap.size (.cells #[.int .i64 (q.t:Int),.string (S q.iv.lo.num),.string (S (q.iv.lo.den:Int)),.string (S q.iv.hi.num),.string (S (q.iv.hi.den:Int))] 32)) ⟨BW,RWh,RWh,RWh,RWh,RWh,RWh,RWh⟩ ?_
    clear rh
    clear sh
    clear ro
    clear so
    clear re
    clear se
    clear rD
    clear sD
    clear rout
    clear sout
    clear rg
    clear sg
    clear hB sB
    rintro V5 ⟨hB,rh,ro,re,rD,rout,rg,rq⟩
    have sh:=RF3 rh
    have so:=RFz4 ro
    have se:=RFz1 re
    have sD:=FD _ rD
    have sout:=RFz4 rout
    have sg:=Fg _ rg
    have sq:=RF5 rq
    refine (MR _ (he.below hB)).mono ?_
    rintro e W6 ⟨rfl,h1⟩
    clear sh
    clear so
    clear se
    clear sD
    clear sout
    clear sg
    clear sq
    replace hB:=hB.trans (h1.mono hB.size)
    replace rh:=Row.below rh h1
    replace ro:=Row.below ro h1
    replace re:=Row.below re h1
    replace rD:=Row.below rD h1
    replace rout:=Row.below rout h1
    replace rg:=Row.below rg h1
    replace rq:=Row.below rq h1
    clear h1
    have sh:=RF3 rh
    have so:=RFz4 ro
    have se:=RFz1 re
    have sD:=FD _ rD
    have sout:=RFz4 rout
    have sg:=Fg _ rg
    have sq:=RF5 rq
    go_wp2_with fail
    have do_d:w.heap.size+1<W6.heap.size:=by omega
    have de_d:w.heap.size+1+1<W6.heap.size:=by omega
    have dout_d:ob<W6.heap.size:=by omega
    have sB:=hB.size
    refine world_cut (fun X=>Below w.heap.size w X∧Row X w.heap.size (.cells #[.string (S r.num),.string (S (r.den:Int)),.slice (some ⟨g,0,none⟩) m c] 26)∧Row X (w.heap.size+1) (.cells #[.string ⟨#[]⟩,.string ⟨#[]⟩,.string ⟨#[]⟩,.string ⟨#[]⟩] 30)∧Row X (w.heap.size+1+1) (.cells #[.int .i64 0] 40)∧Row X DD (.deferred (some []))∧Row X ob (.cells #[.string a1,.string a2,.string b1,.string b2] 30)∧Row X g (.cells cur 32)∧Row X wr.heap.size (.cells #[.int .i64 (q.t:Int),.string (S q.iv.lo.num),.string (S (q.iv.lo.den:Int)),.string (S q.iv.hi.num),.string (S (q.iv.hi.den:Int))] 32)∧Row X W6.heap.size (.cells #[.string (S fr.num),.string (S (fr.den:Int))] 23)) ⟨BW,RWh,RWh,RWh,RWh,RWh,RWh,RWh,RWh⟩ ?_
    clear rh
    clear sh
    clear ro
    clear so
    clear re
    clear se
    clear rD
    clear sD
    clear rout
    clear sout
    clear rg
    clear sg
    clear rq
    clear sq
    clear hB sB
    rintro V7 ⟨hB,rh,ro,re,rD,rout,rg,rq,rd⟩
    have sh:=RF3 rh
    have so:=RFz4 ro
    have se:=RFz1 re
    have sD:=FD _ rD
    have sout:=RFz4 rout
    have sg:=Fg _ rg
    have sq:=RF5 rq
    have sd:=RF2 rd
    refine (ML _ (he.below hB)).mono ?_
    rintro e W8 ⟨rfl,h1⟩
    clear sh
    clear so
    clear se
    clear sD
    clear sout
    clear sg
    clear sq
    clear sd
    replace hB:=hB.trans (h1.mono hB.size)
    replace rh:=Row.below rh h1
    replace ro:=Row.below ro h1
    replace re:=Row.below re h1
    replace rD:=Row.below rD h1
    replace rout:=Row.below rout h1
    replace rg:=Row.below rg h1
    replace rq:=Row.below rq h1
    replace rd:=Row.below rd h1
    clear h1
    have sh:=RF3 rh
    have so:=RFz4 ro
    have se:=RFz1 re
    have sD:=FD _ rD
    have sout:=RFz4 rout
    have sg:=Fg _ rg
    have sq:=RF5 rq
    have sd:=RF2 rd
    go_wp2_with fail
    have do_lo:w.heap.size+1<W8.heap.size:=by omega
    have de_lo:w.heap.size+1+1<W8.heap.size:=by omega
    have dout_lo:ob<W8.heap.size:=by omega
    have sB:=hB.size
    refine world_cut (fun X=>Below w.heap.size w X∧Row X w.heap.size (.cells #[.string (S r.num),.string (S (r.den:Int)),.slice (some ⟨g,0,none⟩) m c] 26)∧Row X (w.heap.size+1) (.cells #[.string ⟨#[]⟩,.string ⟨#[]⟩,.string ⟨#[]⟩,.string ⟨#[]⟩] 30)∧Row X (w.heap.size+1+1) (.cells #[.int .i64 0] 40)∧Row X DD (.deferred (some []))∧Row X ob (.cells #[.string a1,.string a2,.string b1,.string b2] 30)∧Row X g (.cells cur 32)∧Row X wr.heap.size (.cells #[.int .i64 (q.t:Int),.string (S q.iv.lo.num),.string (S (q.iv.lo.den:Int)),.string (S q.iv.hi.num),.string (S (q.iv.hi.den:Int))] 32)∧Row X W6.heap.size (.cells #[.string (S fr.num),.string (S (fr.den:Int))] 23)∧Row X W8.heap.size (.cells #[.string (S xl.num),.string (S (xl.den:Int))] 23)) ⟨BW,RWh,RWh,RWh,RWh,RWh,RWh,RWh,RWh,RWh⟩ ?_
    clear rh
    clear sh
    clear ro
    clear so
    clear re
    clear se
    clear rD
    clear sD
    clear rout
    clear sout
    clear rg
    clear sg
    clear rq
    clear sq
    clear rd
    clear sd
    clear hB sB
    rintro V9 ⟨hB,rh,ro,re,rD,rout,rg,rq,rd,rlo⟩
    have sh:=RF3 rh
    have so:=RFz4 ro
    have se:=RFz1 re
    have sD:=FD _ rD
    have sout:=RFz4 rout
    have sg:=Fg _ rg
    have sq:=RF5 rq
    have sd:=RF2 rd
    have slo:=RF2 rlo
    refine (MH _ (he.below hB)).mono ?_
    rintro e W10 ⟨rfl,h1⟩
    clear sh
    clear so
    clear se
    clear sD
    clear sout
    clear sg
    clear sq
    clear sd
    clear slo
    replace hB:=hB.trans (h1.mono hB.size)
    replace rh:=Row.below rh h1
    replace ro:=Row.below ro h1
    replace re:=Row.below re h1
    replace rD:=Row.below rD h1
    replace rout:=Row.below rout h1
    replace rg:=Row.below rg h1
    replace rq:=Row.below rq h1
    replace rd:=Row.below rd h1
    replace rlo:=Row.below rlo h1
    clear h1
    have sh:=RF3 rh
    have so:=RFz4 ro
    have se:=RFz1 re
    have sD:=FD _ rD
    have sout:=RFz4 rout
    have sg:=Fg _ rg
    have sq:=RF5 rq
    have sd:=RF2 rd
    have slo:=RF2 rlo
    go_upto_region 14 with fail
    have do_hi:w.heap.size+1<W10.heap.size:=by omega
    have de_hi:w.heap.size+1+1<W10.heap.size:=by omega
    have dout_hi:ob<W10.heap.size:=by omega
    have sB:=hB.size
    refine wp_cut (fun X=>Below w.heap.size w X∧Row X w.heap.size (.cells #[.string (S r.num),.string (S (r.den:Int)),.slice (some ⟨g,0,none⟩) m c] 26)∧Row X (w.heap.size+1) (.cells #[.string ⟨#[]⟩,.string ⟨#[]⟩,.string ⟨#[]⟩,.string ⟨#[]⟩] 30)∧Row X (w.heap.size+1+1) (.cells #[.int .i64 0] 40)∧Row X DD (.deferred (some []))∧Row X ob (.cells #[.string a1,.string a2,.string b1,.string b2] 30)∧Row X g (.cells cur 32)∧Row X wr.heap.size (.cells #[.int .i64 (q.t:Int),.string (S q.iv.lo.num),.string (S (q.iv.lo.den:Int)),.string (S q.iv.hi.num),.string (S (q.iv.hi.den:Int))] 32)∧Row X W6.heap.size (.cells #[.string (S fr.num),.string (S (fr.den:Int))] 23)∧Row X W8.heap.size (.cells #[.string (S xl.num),.string (S (xl.den:Int))] 23)∧Row X W10.heap.size (.cells #[.string (S xh.num),.string (S (xh.den:Int))] 23)) ⟨BW,RWh,RWh,RWh,RWh,RWh,RWh,RWh,RWh,RWh,RWh⟩ ?_
    clear rh
    clear sh
    clear ro
    clear so
    clear re
    clear se
    clear rD
    clear sD
    clear rout
    clear sout
    clear rg
    clear sg
    clear rq
    clear sq
    clear rd
    clear sd
    clear rlo
    clear slo
    clear hB sB
    rintro V11 ⟨hB,rh,ro,re,rD,rout,rg,rq,rd,rlo,rhi⟩
    have sh:=RF3 rh
    have so:=RFz4 ro
    have se:=RFz1 re
    have sD:=FD _ rD
    have sout:=RFz4 rout
    have sg:=Fg _ rg
    have sq:=RF5 rq
    have sd:=RF2 rd
    have slo:=RF2 rlo
    have shi:=RF2 rhi
    rcases Nat.eq_zero_or_pos i with hi0 | hi0
    ·have HI0:=Lib.hid hi0
     clear hi0
     have MB1:=fun W=>dbetterS_true (S xl.num) (S (xl.den:Int)) a1 a2 W
     have MB2:=fun W=>dbetterS_true (S xh.num) (S (xh.den:Int)) b1 b2 W
     go_wp2_with fail
     refine wp_region_items 13 [.val (.agg #[.string (S xl.num),.string (S (xl.den:Int))]),.val (.pointer (some ⟨ob,0,none⟩)),.val (.agg #[.string a1,.string a2]),.val (.int .i64 (i:Int)),.val (.bool true),.val (.bool true),.val (undef),.val (undef),.val (undef),.val (undef),.val (undef),.val (.bool true),.val (.agg #[.string (S xl.num),.string (S (xl.den:Int))])] (by kernel_rfl) (by kernel_rfl) trivial (allItems.cons (qi1 fun X h=>RF2 (Row.below rlo h)) (allItems.cons qi0 (allItems.cons (qi1 fun X h=>RFz4 (Row.below rout h)) (allItems.cons qi0 (allItems.cons (qif HI0.out) (allItems.cons qi0 (allItems.cons qi0 (allItems.cons qi0 (allItems.cons qi0 (allItems.cons qi0 (allItems.cons qi0 (allItems.cons (qif HI0.out) (allItems.cons (qi2 fun X h=>MB1 X) trivial))))))))))))) ?_
     rintro W h1
     clear sh
     clear so
     clear se
     clear sD
     clear sout
     clear sg
     clear sq
     clear sd
     clear slo
     clear shi
     replace hB:=hB.trans (h1.mono hB.size)
     replace rh:=Row.below rh h1
     replace ro:=Row.below ro h1
     replace re:=Row.below re h1
     replace rD:=Row.below rD h1
     replace rout:=Row.below rout h1
     replace rg:=Row.below rg h1
     replace rq:=Row.below rq h1
     replace rd:=Row.below rd h1
     replace rlo:=Row.below rlo h1
     replace rhi:=Row.below rhi h1
     clear h1
     have sh:=RF3 rh
     have so:=RFz4 ro
     have se:=RFz1 re
     have sD:=FD _ rD
     have sout:=RFz4 rout
     have sg:=Fg _ rg
     have sq:=RF5 rq
     have sd:=RF2 rd
     have slo:=RF2 rlo
     have shi:=RF2 rhi
     simp only [setItems,List.setIfInBounds_toArray,List.set_cons_succ,List.set_cons_zero,List.take_succ_cons,List.take_zero,List.drop_succ_cons,List.drop_zero]
     go_wp2_with fail
     have sB:=hB.size
     refine wp_cut (fun X=>Below w.heap.size w X∧Row X w.heap.size (.cells #[.string (S r.num),.string (S (r.den:Int)),.slice (some ⟨g,0,none⟩) m c] 26)∧Row X (w.heap.size+1) (.cells #[.string ⟨#[]⟩,.string ⟨#[]⟩,.string ⟨#[]⟩,.string ⟨#[]⟩] 30)∧Row X (w.heap.size+1+1) (.cells #[.int .i64 0] 40)∧Row X DD (.deferred (some []))∧Row X ob (.cells #[.string (S xl.num),.string (S (xl.den:Int)),.string b1,.string b2] 30)∧Row X g (.cells cur 32)∧Row X wr.heap.size (.cells #[.int .i64 (q.t:Int),.string (S q.iv.lo.num),.string (S (q.iv.lo.den:Int)),.string (S q.iv.hi.num),.string (S (q.iv.hi.den:Int))] 32)∧Row X W6.heap.size (.cells #[.string (S fr.num),.string (S (fr.den:Int))] 23)∧Row X W8.heap.size (.cells #[.string (S xl.num),.string (S (xl.den:Int))] 23)∧Row X W10.heap.size (.cells #[.string (S xh.num),.string (S (xh.den:Int))] 23)) ⟨BW,RWh,RWh,RWh,RWh,RWh,RWh,RWh,RWh,RWh,RWh⟩ ?_
     clear rh
     clear sh
     clear ro
     clear so
     clear re
     clear se
     clear rD
     clear sD
     clear rout
     clear sout
     clear rg
     clear sg
     clear rq
     clear sq
     clear rd
     clear sd
     clear rlo
     clear slo
     clear rhi
     clear shi
     clear hB sB
     rintro V12 ⟨hB,rh,ro,re,rD,rout,rg,rq,rd,rlo,rhi⟩
     have sh:=RF3 rh
     have so:=RFz4 ro
     have se:=RFz1 re
     have sD:=FD _ rD
     skip
     have sout:=RFz4 rout
     have sg:=Fg _ rg
     have sq:=RF5 rq
     have sd:=RF2 rd
     have slo:=RF2 rlo
     have shi:=RF2 rhi
     refine wp_region_items 13 [.val (.agg #[.string (S xh.num),.string (S (xh.den:Int))]),.val (.pointer (some ⟨ob,2,none⟩)),.val (.agg #[.string b1,.string b2]),.val (.int .i64 (i:Int)),.val (.bool true),.val (.bool true),.val (undef),.val (undef),.val (undef),.val (undef),.val (undef),.val (.bool true),.val (.agg #[.string (S xh.num),.string (S (xh.den:Int))])] (by kernel_rfl) (by kernel_rfl) trivial (allItems.cons (qi1 fun X h=>RF2 (Row.below rhi h)) (allItems.cons qi0 (allItems.cons (qi1 fun X h=>RFz4 (Row.below rout h)) (allItems.cons qi0 (allItems.cons (qif HI0.out) (allItems.cons qi0 (allItems.cons qi0 (allItems.cons qi0 (allItems.cons qi0 (allItems.cons qi0 (allItems.cons qi0 (allItems.cons (qif HI0.out) (allItems.cons (qi2 fun X h=>MB2 X) trivial))))))))))))) ?_
     rintro W h1
     clear sh
     clear so
     clear se
     clear sD
     clear sout
     clear sg
     clear sq
     clear sd
     clear slo
     clear shi
     replace hB:=hB.trans (h1.mono hB.size)
     replace rh:=Row.below rh h1
     replace ro:=Row.below ro h1
     replace re:=Row.below re h1
     replace rD:=Row.below rD h1
     replace rout:=Row.below rout h1
     replace rg:=Row.below rg h1
     replace rq:=Row.below rq h1
     replace rd:=Row.below rd h1
     replace rlo:=Row.below rlo h1
     replace rhi:=Row.below rhi h1
     clear h1
     have sh:=RF3 rh
     have so:=RFz4 ro
     have se:=RFz1 re
     have sD:=FD _ rD
     have sout:=RFz4 rout
     have sg:=Fg _ rg
     have sq:=RF5 rq
     have sd:=RF2 rd
     have slo:=RF2 rlo
     have shi:=RF2 rhi
     simp only [setItems,List.setIfInBounds_toArray,List.set_cons_succ,List.set_cons_zero,List.take_succ_cons,List.take_zero,List.drop_succ_cons,List.drop_zero]
     go_wp2
     go_roundw
     case rel=>exact ⟨i+1,_,_,_,_,by go_num,by omega,fun h=>absurd h (by omega),fun _=>⟨⟨xl,xh⟩,by have hi0:=HI0.out;subst hi0;have:=knows_first (r:=r) (l:=l) t hil;rw [← HQ.out,HLO.out,HHI.out] at this;exact this,rfl,rfl,rfl,rfl⟩,BW,RWh,RWh,RWh,RWh,RWh⟩
     case measure=>simp [RowKit.intOf];try omega
    ·have hi00:¬ (i=0):=by omega
     obtain ⟨o,hKn,rfl,rfl,rfl,rfl⟩:=HKn.out (by omega)
     have hdo:=hKn.dig HO.out.rdig (fun p hp=>(HO.out.ivs p (List.mem_of_mem_take hp)).2) HT.out (fun p hp=>HO.out.times p (List.mem_of_mem_take hp))
     have MC1:=fun W (H:Env W)=>qcompare xl o.lo (dL.mono (by omega)) (hdo.1.mono (by omega)) W H
     have MC2:=fun W (H:Env W)=>qcompare xh o.hi (dH.mono (by omega)) (hdo.2.mono (by omega)) W H
     have MB1:=fun W=>dbetter_if xl o.lo (decide (0<cmpQ xl o.lo)) W
     have MB2:=fun W=>dbetter_if xh o.hi (decide (cmpQ xh o.hi<0)) W
     have hnx:=knows_next (r:=r) hil hKn
     rw [← HQ.out,HLO.out,HHI.out] at hnx
     have HNX:=Lib.hid hnx
     clear hnx hKn hdo
     unfold CmpOk Q at MC1 MC2
     generalize cmpQ xl o.lo=cl at *
     generalize cmpQ xh o.hi=ch at *
     generalize (if decide (0<cl)=true then xl else o.lo)=zl at *
     generalize (if decide (ch<0)=true then xh else o.hi)=zh at *
     skip
     clear sout
     have sout:=RFz4 rout
     go_wp2_with fail
     refine wp_region_items 13 [.val (.agg #[.string (S xl.num),.string (S (xl.den:Int))]),.val (.pointer (some ⟨ob,0,none⟩)),.val (.agg #[.string (S o.lo.num),.string (S (o.lo.den:Int))]),.val (.int .i64 (i:Int)),.val (.bool false),.val (.bool false),.val (.agg #[.string (S xl.num),.string (S (xl.den:Int))]),.val (.pointer (some ⟨ob,0,none⟩)),.val (.agg #[.string (S o.lo.num),.string (S (o.lo.den:Int))]),.val (.int .i64 cl),.val (.bool (decide (0<cl))),.val (.bool (decide (0<cl))),.val (.agg #[.string (S zl.num),.string (S (zl.den:Int))])] (by kernel_rfl) (by kernel_rfl) trivial (allItems.cons (qi1 fun X h=>RF2 (Row.below rlo h)) (allItems.cons qi0 (allItems.cons (qi1 fun X h=>RFz4 (Row.below rout h)) (allItems.cons qi0 (allItems.cons (qif hi00) (allItems.cons qi0 (allItems.cons (qi1 fun X h=>RF2 (Row.below rlo h)) (allItems.cons qi0 (allItems.cons (qi1 fun X h=>RFz4 (Row.below rout h)) (allItems.cons (qi2 fun X h=>MC1 X (he.below (hB.trans (h.mono hB.size)))) (allItems.cons (qif hi00) (allItems.cons (qif hi00) (allItems.cons (qi2 fun X h=>MB1 X) trivial))))))))))))) ?_
     rintro W h1
     clear sh
     clear so
     clear se
     clear sD
     clear sout
     clear sg
     clear sq
     clear sd
     clear slo
     clear shi
     replace hB:=hB.trans (h1.mono hB.size)
     replace rh:=Row.below rh h1
     replace ro:=Row.below ro h1
     replace re:=Row.below re h1
     replace rD:=Row.below rD h1
     replace rout:=Row.below rout h1
     replace rg:=Row.below rg h1
     replace rq:=Row.below rq h1
     replace rd:=Row.below rd h1
     replace rlo:=Row.below rlo h1
     replace rhi:=Row.below rhi h1
     clear h1
     have sh:=RF3 rh
     have so:=RFz4 ro
     have se:=RFz1 re
     have sD:=FD _ rD
     have sout:=RFz4 rout
     have sg:=Fg _ rg
     have sq:=RF5 rq
     have sd:=RF2 rd
     have slo:=RF2 rlo
     have shi:=RF2 rhi
     simp only [setItems,List.setIfInBounds_toArray,List.set_cons_succ,List.set_cons_zero,List.take_succ_cons,List.take_zero,List.drop_succ_cons,List.drop_zero]
     go_wp2_with fail
     have sB:=hB.size
     refine wp_cut (fun X=>Below w.heap.size w X∧Row X w.heap.size (.cells #[.string (S r.num),.string (S (r.den:Int)),.slice (some ⟨g,0,none⟩) m c] 26)∧Row X (w.heap.size+1) (.cells #[.string ⟨#[]⟩,.string ⟨#[]⟩,.string ⟨#[]⟩,.string ⟨#[]⟩] 30)∧Row X (w.heap.size+1+1) (.cells #[.int .i64 0] 40)∧Row X DD (.deferred (some []))∧Row X ob (.cells #[.string (S zl.num),.string (S (zl.den:Int)),.string (S o.hi.num),.string (S (o.hi.den:Int))] 30)∧Row X g (.cells cur 32)∧Row X wr.heap.size (.cells #[.int .i64 (q.t:Int),.string (S q.iv.lo.num),.string (S (q.iv.lo.den:Int)),.string (S q.iv.hi.num),.string (S (q.iv.hi.den:Int))] 32)∧Row X W6.heap.size (.cells #[.string (S fr.num),.string (S (fr.den:Int))] 23)∧Row X W8.heap.size (.cells #[.string (S xl.num),.string (S (xl.den:Int))] 23)∧Row X W10.heap.size (.cells #[.string (S xh.num),.string (S (xh.den:Int))] 23)) ⟨BW,RWh,RWh,RWh,RWh,RWh,RWh,RWh,RWh,RWh,RWh⟩ ?_
     clear rh
     clear sh
     clear ro
     clear so
     clear re
     clear se
     clear rD
     clear sD
     clear rout
     clear sout
     clear rg
     clear sg
     clear rq
     clear sq
     clear rd
     clear sd
     clear rlo
     clear slo
     clear rhi
     clear shi
     clear hB sB
     rintro V12 ⟨hB,rh,ro,re,rD,rout,rg,rq,rd,rlo,rhi⟩
     have sh:=RF3 rh
     have so:=RFz4 ro
     have se:=RFz1 re
     have sD:=FD _ rD
     skip
     have sout:=RFz4 rout
     have sg:=Fg _ rg
     have sq:=RF5 rq
     have sd:=RF2 rd
     have slo:=RF2 rlo
     have shi:=RF2 rhi
     refine wp_region_items 13 [.val (.agg #[.string (S xh.num),.string (S (xh.den:Int))]),.val (.pointer (some ⟨ob,2,none⟩)),.val (.agg #[.string (S o.hi.num),.string (S (o.hi.den:Int))]),.val (.int .i64 (i:Int)),.val (.bool false),.val (.bool false),.val (.agg #[.string (S xh.num),.string (S (xh.den:Int))]),.val (.pointer (some ⟨ob,2,none⟩)),.val (.agg #[.string (S o.hi.num),.string (S (o.hi.den:Int))]),.val (.int .i64 ch),.val (.bool (decide (ch<0))),.val (.bool (decide (ch<0))),.val (.agg #[.string (S zh.num),.string (S (zh.den:Int))])] (by kernel_rfl) (by kernel_rfl) trivial (allItems.cons (qi1 fun X h=>RF2 (Row.below rhi h)) (allItems.cons qi0 (allItems.cons (qi1 fun X h=>RFz4 (Row.below rout h)) (allItems.cons qi0 (allItems.cons (qif hi00) (allItems.cons qi0 (allItems.cons (qi1 fun X h=>RF2 (Row.below rhi h)) (allItems.cons qi0 (allItems.cons (qi1 fun X h=>RFz4 (Row.below rout h)) (allItems.cons (qi2 fun X h=>MC2 X (he.below (hB.trans (h.mono hB.size)))) (allItems.cons (qif hi00) (allItems.cons (qif hi00) (allItems.cons (qi2 fun X h=>MB2 X) trivial))))))))))))) ?_
     rintro W h1
     clear sh
     clear so
     clear se
     clear sD
     clear sout
     clear sg
     clear sq
     clear sd
     clear slo
     clear shi
     replace hB:=hB.trans (h1.mono hB.size)
     replace rh:=Row.below rh h1
     replace ro:=Row.below ro h1
     replace re:=Row.below re h1
     replace rD:=Row.below rD h1
     replace rout:=Row.below rout h1
     replace rg:=Row.below rg h1
     replace rq:=Row.below rq h1
     replace rd:=Row.below rd h1
     replace rlo:=Row.below rlo h1
     replace rhi:=Row.below rhi h1
     clear h1
     have sh:=RF3 rh
     have so:=RFz4 ro
     have se:=RFz1 re
     have sD:=FD _ rD
     have sout:=RFz4 rout
     have sg:=Fg _ rg
     have sq:=RF5 rq
     have sd:=RF2 rd
     have slo:=RF2 rlo
     have shi:=RF2 rhi
     simp only [setItems,List.setIfInBounds_toArray,List.set_cons_succ,List.set_cons_zero,List.take_succ_cons,List.take_zero,List.drop_succ_cons,List.drop_zero]
     go_wp2
     go_roundw
     case rel=>exact ⟨i+1,_,_,_,_,by go_num,by omega,fun h=>absurd h (by omega),fun _=>⟨⟨zl,zh⟩,HNX.out,rfl,rfl,rfl,rfl⟩,BW,RWh,RWh,RWh,RWh,RWh⟩
     case measure=>simp [RowKit.intOf];try omega
   ·obtain rfl:i=m:=by omega
    obtain ⟨o,hKn,rfl,rfl,rfl,rfl⟩:=hk (by omega)
    rw [List.take_of_length_le (by have:=HM.out;omega)] at hKn
    have HKn:=Lib.hid hKn
    clear hKn hk
    have sh:=RF3 rh
    have so:=RFz4 ro
    have se:=RFz1 re
    have sD:=FD _ rD
    have sout:=RFz4 rout
    go_upto_region 17 with fail
    go_wp2_with fail
    rw [HQ0.out]
    have sB:=hB.size
    refine postM_cut (fun X=>Below w.heap.size w X∧Row X (w.heap.size+1) (.cells #[.string (S o.lo.num),.string (S (o.lo.den:Int)),.string (S o.hi.num),.string (S (o.hi.den:Int))] 30)∧Row X (w.heap.size+1+1) (.cells #[.int .i64 0] 40)∧Row X DD (.deferred (some []))) ⟨BW,RWh,RWh,RWh⟩ ?_
    clear hB ro re rD
    rintro V ⟨hB,ro,re,rD⟩
    replace ro:=Row.putObj (D:=DD) (o' := .deferred none) ro (by omega)
    have zo0:=Row.cell_at ro 0 rfl
    have zo1:=Row.cell_at ro 1 rfl
    have zo2:=Row.cell_at ro 2 rfl
    have zo3:=Row.cell_at ro 3 rfl
    replace re:=Row.putObj (D:=DD) (o' := .deferred none) re (by omega)
    have ze0:=Row.cell_at re 0 rfl
    refine marks_ret (v := .tuple #[.agg #[.string (S o.lo.num),.string (S (o.lo.den:Int)),.string (S o.hi.num),.string (S (o.hi.den:Int))],.int .i64 0]) rfl rD ?res ⟨.inl ⟨HF.out,o,HKn.out,rfl⟩,below_putObj hB (by omega)⟩
    case res=>simp [results,Tryz.results11, go_sem,zo0,zo1,zo2,zo3,ze0]
end Go.Proofs.YtnokpldomlmamaaGreatDoor
