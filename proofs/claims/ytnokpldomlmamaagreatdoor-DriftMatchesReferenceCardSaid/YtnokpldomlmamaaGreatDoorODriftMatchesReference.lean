/-
 DriftMatchesReference: the walk.
-/
import Derived.Test.YtnokpldomlmamaaGreatDoorOMLaw
set_option linter.unusedSimpArgs false
set_option linter.unusedVariables false
set_option maxRecDepth 100000
set_option maxHeartbeats 16000000
namespace Go.Proofs.YtnokpldomlmamaaGreatDoor
open Go Go.RowKit Go.Lib Go.Shelf
attribute [local go_sem] normalQ
theorem Row.set5a {W:World} {b:Nat} {v0 v1 v2 v3 v4 u0:Value} {t:TypeId} (h:Row W b (.cells #[v0,v1,v2,v3,v4] t)):Row (W.setCell ⟨b,0,none⟩ u0) b (.cells #[u0,v1,v2,v3,v4] t):=h.set_same rfl
theorem RWm {P:Prop} (h:P:=by repeat (first | (with_reducible assumption) | (with_reducible exact row_new' (by first | omega | (simp;done) | (simp;omega))) | (with_reducible refine Row.drew ?_) | (with_reducible refine Row.drewN ?_ _) | (with_reducible refine Row.alloc ?_ _) | (with_reducible apply Row.set5) | (with_reducible apply Row.set4) | (with_reducible apply Row.set3) | (with_reducible apply Row.set3ab) | (with_reducible apply Row.set3c) | (with_reducible apply Row.set5a) | (with_reducible apply Row.set5bc) | (with_reducible apply Row.set5de) | (with_reducible apply Row.set4a) | (with_reducible apply Row.set4b) | (with_reducible apply Row.set2) | (with_reducible apply Row.set1) | (with_reducible apply Row.set2a) | (with_reducible apply Row.set2b) | (with_reducible refine Row.set_other ?_ _ (by first | omega | (simp;done) | (simp;omega))))):P:=h
theorem eq2i (a b c d:Int) (w:World):(Op.equalIn 10000 27 (.agg #[.int .i64 a,.int .i64 b]) (.agg #[.int .i64 c,.int .i64 d])).run Tryz.prog w = .ok (a == c && b == d) w:=by
 have u3:=Tryz.underlying3
 have a3:=Tryz.isAgg3
 have z3:=Tryz.sizeOf3
 rw [show (10000:Nat)=9999+1 from rfl,Op.equalIn]
 simp only [Sem.run_bind,run_underlying Tryz.underlying27, Result.andThen_ok]
 simp only [Std.Legacy.Range.forIn_eq_forIn_range',Std.Legacy.Range.size,Nat.sub_zero,Nat.add_sub_cancel,Nat.div_one,List.range'_succ,List.range'_zero,List.forIn_cons,List.forIn_nil]
 go_simp
 by_cases h1:a=c <;> by_cases h2:b=d <;> simp [h1,h2]
theorem eq2s (a b:Int):Hid (∀ w:World,(Op.equalIn 10000 27 (.agg #[.int .i64 a,.int .i64 b]) (.agg #[.int .i64 a,.int .i64 b])).run Tryz.prog w = .ok true w):=Lib.hid fun w=>by rw [eq2i];simp
theorem sayTwo_up {n0 B0:Nat} {a1 a2 m1 m2:ByteArray} {k m cm:Nat} {pm:Option Addr} {l:List RP} {v:Value} {W:World} {P:Prop} (h0:n0≤B0) (h:SayTwo n0 B0 a1 a2 k l m1 m2 pm m cm v W∧P):SayTwo n0 n0 a1 a2 k l m1 m2 pm m cm v W∧P:=by
 obtain ⟨⟨B,p,c,e,hb,hr⟩,h2⟩:=h
 exact ⟨⟨B,p,c,e,Nat.le_trans h0 hb,hr⟩,h2⟩
theorem XP.below {W W':World} {p:Option Addr} {n:Nat} {f:Nat→RP} (h:XP W p n f) (hB:Below W.heap.size W W'):XP W' p n f :=
 h.elim .inl fun ⟨g,o,e,hg,hc⟩ => .inr ⟨g,o,e,Nat.lt_of_lt_of_le hg hB.size,fun i hi=>by
  obtain ⟨h0,h1,h2,h3,h4⟩:=hc i hi
  exact ⟨(hB.cell (p:=⟨g,_,none⟩) hg).trans h0,(hB.cell (p:=⟨g,_,none⟩) hg).trans h1,(hB.cell (p:=⟨g,_,none⟩) hg).trans h2,(hB.cell (p:=⟨g,_,none⟩) hg).trans h3,(hB.cell (p:=⟨g,_,none⟩) hg).trans h4⟩⟩
def SayInt (z:Int):QSay:=fun v W=>v = .int .i64 z
theorem SayInt.mono (z:Int):qMono (SayInt z):=fun v W W' h hB=>h
def SayB (b:Bool):QSay:=fun v W=>v = .bool b
theorem SayB.mono (b:Bool):qMono (SayB b):=fun v W W' h hB=>h
theorem driftMatchesReference_any (a b:ByteArray) (p:Option Addr) (n c:Nat) (f:Nat→RP) (r0 r1:Int) (px:Option Addr) (nx cx:Nat) (fx:Nat→Nat→Int) (xt:Int) (xa xb xc xd:ByteArray) (ti:Int) (w1 w2:ByteArray) (w:World) (hn:n≤9223372036854775807) (hxp:XP w p n f) (hfp:∀ i,i<n→IsInt (f i).t) (hr:IsInt r0∧IsInt r1) (hx:nx≤9223372036854775807∧XK 4 w px nx fx∧∀ i j,i<nx→j<4→IsInt (fx i j)) (hti:IsInt ti) (he:Env w) :
  Calls Tryz.prog 3 #[.agg #[.string a,.string b,.slice p n c],.agg #[.int .i64 r0,.int .i64 r1],.slice px nx cx,.agg #[.int .i64 xt,.string xa,.string xb,.string xc,.string xd],.int .i64 ti,.agg #[.string w1,.string w2]] w (BoolOk true w):=by
 have hB:Below w.heap.size w w:=Below.refl _ _
 obtain ⟨hnx,hX,hfx⟩:=hx
 have HXX:=Lib.hid hX
 have HXP:=Lib.hid hxp
 have MS:=fun W (H:Env W)=>sane12 W H
 unfold BoolOk at MS
 have MSH:=fun a b W=>lshort a b W
 unfold ShortOk at MSH
 obtain ⟨tk,htk⟩:∃ z,pk ti 130=z:=⟨_,rfl⟩
 have PK:=fun W=>pickL12 ti 130 hti (by decide) W
 rw [htk] at PK
 have Itk:IsInt tk:=by have h1:=pk_nonneg ti (n:=130) (by decide);have h2:=pk_lt ti (n:=130) (by decide);rw [htk] at h1 h2;exact ⟨by omega,by omega⟩
 obtain ⟨r,hr0⟩:∃ r,madeRate r0 r1=r:=⟨_,rfl⟩
 obtain ⟨l,hl0⟩:∃ l,madeL fx (min nx 8)=l:=⟨_,rfl⟩
 have hmr:=made_hist (by omega) hr0 hl0
 have MM:=fun n0 W (h:X4 W px nx fx) (h0:n0≤W.heap.size)=>made_r (cx:=cx) (n0:=n0) hr.1 hr.2 hfx hnx hr0 hl0 W h h0
 generalize hm:l.length=m at *
 generalize l.map rawOf=lm at *
 have hfr:=few_hist a b hfp
 have MF:=fun n0 W (h:XP W p n f) (h0:n0≤W.heap.size)=>few_say (a:=a) (b:=b) (c:=c) (n0:=n0) hn W h h0
 generalize fewL n f (min n 10)=lf at *
 generalize hk0:min n 10=kf at *
 have HMR:=Lib.hid hmr
 have HFR:=Lib.hid hfr
 have ITI:=Lib.hid hti
 have ITK:=Lib.hid Itk
 clear hr0 hl0 hm hk0 hmr hfr hti Itk htk hX hfx hr hxp hfp hn
 go_enter Tryz.func3, Tryz.ntmps3
 go_wp2_with fail
 have d0_q:w.heap.size≤w.heap.size+1+1:=by have:=hB.size;omega
 have d0_wd:w.heap.size≤w.heap.size+1+1+1:=by have:=hB.size;omega
 have sB:=hB.size
 refine world_cut (fun X=>Below w.heap.size w X∧Row X w.heap.size (.cells #[.string a,.string b,.slice p n c] 26)∧Row X (w.heap.size+1) (.cells #[.int .i64 r0,.int .i64 r1] 27)∧Row X (w.heap.size+1+1) (.cells #[.int .i64 xt,.string xa,.string xb,.string xc,.string xd] 32)∧Row X (w.heap.size+1+1+1) (.cells #[.string w1,.string w2] 23)) ⟨BW,RWm,RWm,RWm,RWm⟩ ?_
 clear hB sB
 rintro V1 ⟨hB,rh0,rr2,rq,rwd⟩
 have sh0:=RF3 rh0
 have sr2:=RF2 rr2
 have sq:=RFz5 rq
 have swd:=RFz2 rwd
 refine (MS _ (he.below hB)).mono ?_
 rintro e W2 ⟨rfl,h1⟩
 have stp:=St4 hB h1 rh0 rr2 rq rwd;clear hB h1 rh0 sh0 rr2 sr2 rq sq rwd swd
 obtain ⟨hB,rh0,rr2,rq,rwd⟩:=stp
 have sh0:=RF3 rh0
 have sr2:=RF2 rr2
 have sq:=RFz5 rq
 have swd:=RFz2 rwd
 go_wp2_with fail
 clear rr2
 clear sr2
 obtain ⟨n0,hn00⟩:∃ n,n=w.heap.size+1+1+1+1:=⟨_,rfl⟩;have hn0:n0≤W2.heap.size:=(by omega);have hqn:w.heap.size+1+1<n0:=(by omega);have hwn:w.heap.size+1+1+1<n0:=(by omega)
 refine (MM n0 _ (X4.below HXX.out hB) hn0).mono ?_
 rintro e W3 ⟨pm,cm,hmm,rfl,h1⟩
 have stp:=St3 hB h1 rh0 rq rwd;clear hB h1 rh0 sh0 rq sq rwd swd
 obtain ⟨hB,rh0,rq,rwd⟩:=stp
 have sh0:=RF3 rh0
 have sq:=RFz5 rq
 have swd:=RFz2 rwd
 obtain ⟨hmm,hlo⟩:=hmm
 go_wp2_with fail
 have dq_mh:w.heap.size+1+1<W3.heap.size:=by omega
 have dwd_mh:w.heap.size+1+1+1<W3.heap.size:=by omega
 have sB:=hB.size
 refine world_cut (fun X=>Below w.heap.size w X∧Row X w.heap.size (.cells #[.string a,.string b,.slice p n c] 26)∧Row X (w.heap.size+1+1) (.cells #[.int .i64 xt,.string xa,.string xb,.string xc,.string xd] 32)∧Row X (w.heap.size+1+1+1) (.cells #[.string w1,.string w2] 23)∧Row X W3.heap.size (.cells #[.string (S r.num),.string (S (r.den:Int)),.slice pm m cm] 26)∧RMem X pm m cm lm) ⟨BW,RWm,RWm,RWm,RWm,(by first | with_reducible exact RMem.set (RMem.set hmm hlo hqn 1 _) hlo hqn 2 _ | with_reducible exact RMem.set (RMem.set hmm hlo hqn 3 _) hlo hqn 4 _ | with_reducible exact RMem.set (RMem.set hmm hlo hwn 0 _) hlo hwn 1 _ | exact RMem.below hmm BW)⟩ ?_
 clear rh0
 clear sh0
 clear rq
 clear sq
 clear rwd
 clear swd
 clear hB sB hmm
 rintro V4 ⟨hB,rh0,rq,rwd,rmh,hmm⟩
 have sh0:=RF3 rh0
 have sq:=RFz5 rq
 have swd:=RFz2 rwd
 have smh:=RF3 rmh
 refine (MSH _ _ _).mono ?_
 rintro e W5 ⟨rfl,h1⟩
 replace hmm:=RMem.below hmm h1
 have stp:=St4 hB h1 rh0 rq rwd rmh;clear hB h1 rh0 sh0 rq sq rwd swd rmh smh
 obtain ⟨hB,rh0,rq,rwd,rmh⟩:=stp
 have sh0:=RF3 rh0
 have sq:=RFz5 rq
 have swd:=RFz2 rwd
 have smh:=RF3 rmh
 go_wp2_with fail
 have sB:=hB.size
 refine world_cut (fun X=>Below w.heap.size w X∧Row X w.heap.size (.cells #[.string a,.string b,.slice p n c] 26)∧Row X (w.heap.size+1+1) (.cells #[.int .i64 xt,.string (cutS xa),.string (cutS xb),.string xc,.string xd] 32)∧Row X (w.heap.size+1+1+1) (.cells #[.string w1,.string w2] 23)∧Row X W3.heap.size (.cells #[.string (S r.num),.string (S (r.den:Int)),.slice pm m cm] 26)∧RMem X pm m cm lm) ⟨BW,RWm,RWm,RWm,RWm,(by first | with_reducible exact RMem.set (RMem.set hmm hlo hqn 1 _) hlo hqn 2 _ | with_reducible exact RMem.set (RMem.set hmm hlo hqn 3 _) hlo hqn 4 _ | with_reducible exact RMem.set (RMem.set hmm hlo hwn 0 _) hlo hwn 1 _ | exact RMem.below hmm BW)⟩ ?_
 clear rh0
 clear sh0
 clear rq
 clear sq
 clear rwd
 clear swd
 clear rmh
 clear smh
 clear hB sB hmm
 rintro V6 ⟨hB,rh0,rq,rwd,rmh,hmm⟩
 have sh0:=RF3 rh0
 have sq:=RFz5 rq
 have swd:=RFz2 rwd
 have smh:=RF3 rmh
 refine (MSH _ _ _).mono ?_
 rintro e W7 ⟨rfl,h1⟩
 replace hmm:=RMem.below hmm h1
 have stp:=St4 hB h1 rh0 rq rwd rmh;clear hB h1 rh0 sh0 rq sq rwd swd rmh smh
 obtain ⟨hB,rh0,rq,rwd,rmh⟩:=stp
 have sh0:=RF3 rh0
 have sq:=RFz5 rq
 have swd:=RFz2 rwd
 have smh:=RF3 rmh
 go_wp2_with fail
 have sB:=hB.size
 refine world_cut (fun X=>Below w.heap.size w X∧Row X w.heap.size (.cells #[.string a,.string b,.slice p n c] 26)∧Row X (w.heap.size+1+1) (.cells #[.int .i64 xt,.string (cutS xa),.string (cutS xb),.string (cutS xc),.string (cutS xd)] 32)∧Row X (w.heap.size+1+1+1) (.cells #[.string w1,.string w2] 23)∧Row X W3.heap.size (.cells #[.string (S r.num),.string (S (r.den:Int)),.slice pm m cm] 26)∧RMem X pm m cm lm) ⟨BW,RWm,RWm,RWm,RWm,(by first | with_reducible exact RMem.set (RMem.set hmm hlo hqn 1 _) hlo hqn 2 _ | with_reducible exact RMem.set (RMem.set hmm hlo hqn 3 _) hlo hqn 4 _ | with_reducible exact RMem.set (RMem.set hmm hlo hwn 0 _) hlo hwn 1 _ | exact RMem.below hmm BW)⟩ ?_
 clear rh0
 clear sh0
 clear rq
 clear sq
 clear rwd
 clear swd
 clear rmh
 clear smh
 clear hB sB hmm
 rintro V8 ⟨hB,rh0,rq,rwd,rmh,hmm⟩
 have sh0:=RF3 rh0
 have sq:=RFz5 rq
 have swd:=RFz2 rwd
 have smh:=RF3 rmh
 refine (MSH _ _ _).mono ?_
 rintro e W9 ⟨rfl,h1⟩
 replace hmm:=RMem.below hmm h1
 have stp:=St4 hB h1 rh0 rq rwd rmh;clear hB h1 rh0 sh0 rq sq rwd swd rmh smh
 obtain ⟨hB,rh0,rq,rwd,rmh⟩:=stp
 have sh0:=RF3 rh0
 have sq:=RFz5 rq
 have swd:=RFz2 rwd
 have smh:=RF3 rmh
 go_wp2_with fail
 have sB:=hB.size
 refine wp_cut (fun X=>Below w.heap.size w X∧Row X w.heap.size (.cells #[.string a,.string b,.slice p n c] 26)∧Row X (w.heap.size+1+1) (.cells #[.int .i64 xt,.string (cutS xa),.string (cutS xb),.string (cutS xc),.string (cutS xd)] 32)∧Row X (w.heap.size+1+1+1) (.cells #[.string (cutS w1),.string (cutS w2)] 23)∧Row X W3.heap.size (.cells #[.string (S r.num),.string (S (r.den:Int)),.slice pm m cm] 26)∧RMem X pm m cm lm) ⟨BW,RWm,RWm,RWm,RWm,(by first | with_reducible exact RMem.set (RMem.set hmm hlo hqn 1 _) hlo hqn 2 _ | with_reducible exact RMem.set (RMem.set hmm hlo hqn 3 _) hlo hqn 4 _ | with_reducible exact RMem.set (RMem.set hmm hlo hwn 0 _) hlo hwn 1 _ | exact RMem.below hmm BW)⟩ ?_
 clear rh0
 clear sh0
 clear rq
 clear sq
 clear rwd
 clear swd
 clear rmh
 clear smh
 clear hB sB hmm
 rintro V10 ⟨hB,rh0,rq,rwd,rmh,hmm⟩
 have sh0:=RF3 rh0
 have sq:=RFz5 rq
 have swd:=RFz2 rwd
 have smh:=RF3 rmh
 refine wp_region_items 6 [.val (.agg #[.string a,.string b,.slice p n c]),.say (SayFew n0 (cutS a) (cutS b) kf lf),.val (.agg #[.string (S r.num),.string (S (r.den:Int)),.slice pm m cm]),.say (SayTwo n0 n0 (cutS a) (cutS b) kf lf (S r.num) (S (r.den:Int)) pm m cm),.say (SayInt 2),.val (.int .i64 0)] (by kernel_rfl) (by kernel_rfl) ⟨SayFew.mono _ _ _ _ _,⟨SayTwo.mono _ _ _ _ _ _ _ _ _ _ _,⟨SayInt.mono _,trivial⟩⟩⟩ (allItems.cons (qi1 fun X h=>RF3 (Row.below rh0 h)) (allItems.cons (qi3 fun X h=>MF n0 X (XP.below HXP.out (hB.trans (h.mono hB.size))) (Nat.le_trans (by omega) h.size)) (allItems.cons (qi1 fun X h=>RF3 (Row.below rmh h)) (allItems.cons (qId (by intro ρ X qX qc qg qf qt qd;simp [depsSay,itemSp,QItem.sp,Region.binds] at qd;obtain ⟨⟨p2,c2,e,h1,h2⟩,e2⟩:=qd;simp [Region.wanted,yieldedBy,quietly,QItem.sp,execOp,go_sem,foreign,qc,qt,qf,Below.refl,e,e2];exact sayTwo_up (by omega) (sayTwo_new qX h1 h2))) (allItems.cons (qId (by intro ρ X qX qc qg qf qt qd;simp [depsSay,itemSp,QItem.sp,Region.binds] at qd;obtain ⟨B,p2,c2,e,h⟩:=qd;simp [Region.wanted,yieldedBy,quietly,QItem.sp,execOp,go_sem,foreign,qc,qt,qf,Below.refl,e];exact rfl)) (allItems.cons qi0 trivial)))))) ?_
 rintro W h1
 replace hmm:=RMem.below hmm h1
 have stp:=St4 hB h1 rh0 rq rwd rmh;clear hB h1 rh0 sh0 rq sq rwd swd rmh smh
 obtain ⟨hB,rh0,rq,rwd,rmh⟩:=stp
 have sh0:=RF3 rh0
 have sq:=RFz5 rq
 have swd:=RFz2 rwd
 have smh:=RF3 rmh
 simp only [setItems,List.setIfInBounds_toArray,List.set_cons_succ,List.set_cons_zero,List.take_succ_cons,List.take_zero,List.drop_succ_cons,List.drop_zero]
 rintro _ -
 rintro _ ⟨B,pf,cf,rfl,hB6,rbb,hmf,hlf⟩
 rintro _ rfl
 have hhi:HI2 n0 W _:=hi2_mk HFR.out hmf hlf HMR.out hmm hlo
 obtain ⟨cur,hcur⟩:∃ x:Array Value,x=#[.string (cutS a),.string (cutS b),.slice pf kf cf,.string (S r.num),.string (S (r.den:Int)),.slice pm m cm]:=⟨_,rfl⟩
 rw [← hcur] at rbb hhi
 clear hcur hmf hlf hmm hlo HFR HMR
 go_wp2_with fail
 clear rh0
 clear sh0
 clear rmh
 clear smh
 clear sq
 clear swd
 go_loopw [57] (fun v57 wr=>∃ (i:Nat) (z:Int),v57 = .int .i64 (i:Int)∧i≤2∧HI2 n0 wr cur∧Below w.heap.size w wr∧Row wr (w.heap.size+1+1) (.cells #[.int .i64 z,.string (cutS xa),.string (cutS xb),.string (cutS xc),.string (cutS xd)] 32)∧Row wr (w.heap.size+1+1+1) (.cells #[.string (cutS w1),.string (cutS w2)] 23)∧Row wr B (.cells cur 26)) (fun v57 _=>(2 - RowKit.intOf v57).toNat)
 case atStart=>exact ⟨0,_,rfl,by omega,hhi,hB,rq,rwd,rbb⟩
 case round =>
  clear hB rq rwd rbb hhi
  obtain ⟨i,z,rfl,hi2,hhi,hB,rq,rwd,rbb⟩:=hrel
  obtain ⟨wO,rfl⟩:∃ W,W=wr:=⟨_,rfl⟩
  rcases Nat.lt_or_ge i 2 with hlt | hge
  ·obtain ⟨A1,A2,P,N,C,L,hR,y0,y1,y2,hmi,hlo⟩:=hhi i hlt
   have HRR:=Lib.hid hR
   have hiI:(i:Int)<2:=by omega
   clear hR
   have sq:=RFz5 rq
   have swd:=RFz2 rwd
   have Fbb:∀ X,Row X B (.cells cur 26)→(B<X.heap.size∧X.cell? ⟨B,i * 3,none⟩=some (.string A1)∧X.cell? ⟨B,i * 3+1,none⟩=some (.string A2)∧X.cell? ⟨B,i * 3+2,none⟩=some (.slice P N C)):=fun X h=>⟨h.1,Row.cell_at h _ y0,Row.cell_at h _ y1,Row.cell_at h _ y2⟩
   have sbb:=Fbb _ rbb
   go_wp2_with fail
   have dq_h:w.heap.size+1+1<wO.heap.size:=by omega
   have dwd_h:w.heap.size+1+1+1<wO.heap.size:=by omega
   have sB:=hB.size
   refine world_cut (fun X=>Below w.heap.size w X∧Row X (w.heap.size+1+1) (.cells #[.int .i64 z,.string (cutS xa),.string (cutS xb),.string (cutS xc),.string (cutS xd)] 32)∧Row X (w.heap.size+1+1+1) (.cells #[.string (cutS w1),.string (cutS w2)] 23)∧Row X B (.cells cur 26)∧Row X wO.heap.size (.cells #[.string A1,.string A2,.slice P N C] 26)∧HI2 n0 X cur∧RMem X P N C L) ⟨BW,RWm,RWm,RWm,RWm,(by first | with_reducible exact HI2.set hhi hqn _ _ | exact HI2.below hhi BW),(by first | with_reducible exact RMem.set hmi hlo hqn _ _ | exact RMem.below hmi BW)⟩ ?_
   clear rq
   clear sq
   clear rwd
   clear swd
   clear rbb
   clear sbb
   clear hB sB hhi hmi
   rintro V11 ⟨hB,rq,rwd,rbb,rh,hhi,hmi⟩
   have sq:=RFz5 rq
   have swd:=RFz2 rwd
   have sbb:=Fbb _ rbb
   have sh:=RF3 rh
   refine (PK _).mono ?_
   rintro e W12 ⟨rfl,h1⟩
   replace hhi:=HI2.below hhi h1
   replace hmi:=RMem.below hmi h1
   have stp:=St4 hB h1 rq rwd rbb rh;clear hB h1 rq sq rwd swd rbb sbb rh sh
   obtain ⟨hB,rq,rwd,rbb,rh⟩:=stp
   have sq:=RFz5 rq
   have swd:=RFz2 rwd
   have sbb:=Fbb _ rbb
   have sh:=RF3 rh
   go_wp2_with fail
   have dq_b6:w.heap.size+1+1<W12.heap.size:=by omega
   have dwd_b6:w.heap.size+1+1+1<W12.heap.size:=by omega
   have sB:=hB.size
   refine wp_cut (fun X=>Below w.heap.size w X∧Row X (w.heap.size+1+1) (.cells #[.int .i64 z,.string (cutS xa),.string (cutS xb),.string (cutS xc),.string (cutS xd)] 32)∧Row X (w.heap.size+1+1+1) (.cells #[.string (cutS w1),.string (cutS w2)] 23)∧Row X B (.cells cur 26)∧Row X wO.heap.size (.cells #[.string A1,.string A2,.slice P N C] 26)∧Row X W12.heap.size (.cells #[.int .i64 ti,.int .i64 tk] 3)∧HI2 n0 X cur∧RMem X P N C L) ⟨BW,RWm,RWm,RWm,RWm,RWm,(by first | with_reducible exact HI2.set hhi hqn _ _ | exact HI2.below hhi BW),(by first | with_reducible exact RMem.set hmi hlo hqn _ _ | exact RMem.below hmi BW)⟩ ?_
   clear rq
   clear sq
   clear rwd
   clear swd
   clear rbb
   clear sbb
   clear rh
   clear sh
   clear hB sB hhi hmi
   rintro V13 ⟨hB,rq,rwd,rbb,rh,rb6,hhi,hmi⟩
   have sq:=RFz5 rq
   have swd:=RFz2 rwd
   have sbb:=Fbb _ rbb
   have sh:=RF3 rh
   have sb6:=RF2 rb6
   clear sq
   clear swd
   clear sbb
   clear sh
   clear sb6
   obtain ⟨tcur,htc⟩:∃ x:Array Value,x=#[.int .i64 ti,.int .i64 tk]:=⟨_,rfl⟩
   rw [← htc] at rb6
   have HTT:Hid (∀ k,k<2→∃ T,tcur[k]? = some (.int .i64 T)∧IsInt T):=Lib.hid (fun k hk=>by rcases Nat.lt_or_ge k 1 with h | h;(· obtain rfl:k=0:=(by omega);exact ⟨ti,by simp [htc],ITI.out⟩);(· obtain rfl:k=1:=(by omega);exact ⟨tk,by simp [htc],ITK.out⟩))
   clear htc
   generalize htb:W12.heap.size=tb at rb6 dq_b6
   generalize hhb:wO.heap.size=hb at rh dq_h
   clear htb hhb
   have rtb:=rb6
   clear rb6
   go_loopw [66] (fun v66 wr=>∃ (k:Nat) (z:Int),v66 = .int .i64 (k:Int)∧k≤2∧HI2 n0 wr cur∧RMem wr P N C L∧Below w.heap.size w wr∧Row wr (w.heap.size+1+1) (.cells #[.int .i64 z,.string (cutS xa),.string (cutS xb),.string (cutS xc),.string (cutS xd)] 32)∧Row wr (w.heap.size+1+1+1) (.cells #[.string (cutS w1),.string (cutS w2)] 23)∧Row wr B (.cells cur 26)∧Row wr hb (.cells #[.string A1,.string A2,.slice P N C] 26)∧Row wr tb (.cells tcur 3)) (fun v66 _=>(2 - RowKit.intOf v66).toNat)
   case atStart=>exact ⟨0,z,rfl,by omega,hhi,hmi,hB,rq,rwd,rbb,rh,rtb⟩
   case round =>
    clear hB rq rwd rbb rh rtb hhi hmi
    obtain ⟨k,z,rfl,hk2,hhi,hmi,hB,rq,rwd,rbb,rh,rtb⟩:=hrel
    obtain ⟨wP,rfl⟩:∃ W,W=wr:=⟨_,rfl⟩
    rcases Nat.lt_or_ge k 2 with hlk | hgk
    ·obtain ⟨T,t0,IT⟩:=HTT.out k hlk
     have hkI:(k:Int)<2:=by omega
     obtain ⟨v1,v2,v3,v4,ke,MA⟩:=at_both HRR.out T
     obtain ⟨mu,bu,MU⟩:=until_both HRR.out T (cutS_str w1) (cutS_str w2)
     obtain ⟨s1,s2,kk,lk,hlk2,hk10,MK⟩:=known_both HRR.out T
     obtain ⟨g1,g2,la,ka,hla,MD⟩:=add_both HRR.out (show RStr ⟨T,cutS xa,cutS xb,cutS xc,cutS xd⟩ from ⟨IT,cutS_str _,cutS_str _,cutS_str _,cutS_str _⟩)
     have A1_:=fun W h H=>(MA P N C W h H).1
     have A2_:=fun W h H=>(MA P N C W h H).2
     have U1_:=fun W h H=>(MU P N C W h H).1
     have U2_:=fun W h H=>(MU P N C W h H).2
     have K1_:=fun W h H=>kn_say hlk2 (MK P N C W h H).1
     have K2_:=fun W h H=>kn_say hlk2 (MK P N C W h H).2
     have D1_:=fun W h H=>(MD P N C W h H).1
     have D2_:=fun W h H=>(MD P N C W h H).2
     unfold AtV at A1_ A2_
     unfold UV at U1_ U2_
     unfold AV at D1_ D2_
     have HLK:=Lib.hid hlk2
     clear MA MU MK MD hlk2
     have sq:=RFz5 rq
     have swd:=RFz2 rwd
     have Fbb:∀ X,Row X B (.cells cur 26)→(B<X.heap.size):=fun X h=>h.1
     have sbb:=Fbb _ rbb
     have sh:=RF3 rh
     have Ftb:∀ X,Row X tb (.cells tcur 3)→(tb<X.heap.size∧X.cell? ⟨tb,k,none⟩=some (.int .i64 T)):=fun X h=>⟨h.1,Row.cell_at h _ t0⟩
     have stb:=Ftb _ rtb
     go_wp2_with fail
     refine (A1_ _ hmi (he.below hB)).mono ?_
     rintro e W14 ⟨rfl,h1⟩
     replace hhi:=HI2.below hhi h1
     replace hmi:=RMem.below hmi h1
     have stp:=St5 hB h1 rq rwd rbb rh rtb;clear hB h1 rq sq rwd swd rbb sbb rh sh rtb stb
     obtain ⟨hB,rq,rwd,rbb,rh,rtb⟩:=stp
     have sq:=RFz5 rq
     have swd:=RFz2 rwd
     have sbb:=Fbb _ rbb
     have sh:=RF3 rh
     have stb:=Ftb _ rtb
     go_wp2_with fail
     have dq_va:w.heap.size+1+1<W14.heap.size:=by omega
     have dwd_va:w.heap.size+1+1+1<W14.heap.size:=by omega
     have sB:=hB.size
     refine world_cut (fun X=>Below w.heap.size w X∧Row X (w.heap.size+1+1) (.cells #[.int .i64 z,.string (cutS xa),.string (cutS xb),.string (cutS xc),.string (cutS xd)] 32)∧Row X (w.heap.size+1+1+1) (.cells #[.string (cutS w1),.string (cutS w2)] 23)∧Row X B (.cells cur 26)∧Row X hb (.cells #[.string A1,.string A2,.slice P N C] 26)∧Row X tb (.cells tcur 3)∧Row X W14.heap.size (.cells #[.string v1,.string v2,.string v3,.string v4] 30)∧HI2 n0 X cur∧RMem X P N C L) ⟨BW,RWm,RWm,RWm,RWm,RWm,RWm,(by first | with_reducible exact HI2.set hhi hqn _ _ | exact HI2.below hhi BW),(by first | with_reducible exact RMem.set hmi hlo hqn _ _ | exact RMem.below hmi BW)⟩ ?_
     clear rq
     clear sq
     clear rwd
     clear swd
     clear rbb
     clear sbb
     clear rh
     clear sh
     clear rtb
     clear stb
     clear hB sB hhi hmi
     rintro V15 ⟨hB,rq,rwd,rbb,rh,rtb,rva,hhi,hmi⟩
     have sq:=RFz5 rq
     have swd:=RFz2 rwd
     have sbb:=Fbb _ rbb
     have sh:=RF3 rh
     have stb:=Ftb _ rtb
     have sva:=RF4 rva
     refine (A2_ _ hmi (he.below hB)).mono ?_
     rintro e W16 ⟨rfl,h1⟩
     replace hhi:=HI2.below hhi h1
     replace hmi:=RMem.below hmi h1
     have stp:=St6 hB h1 rq rwd rbb rh rtb rva;clear hB h1 rq sq rwd swd rbb sbb rh sh rtb stb rva sva
     obtain ⟨hB,rq,rwd,rbb,rh,rtb,rva⟩:=stp
     have sq:=RFz5 rq
     have swd:=RFz2 rwd
     have sbb:=Fbb _ rbb
     have sh:=RF3 rh
     have stb:=Ftb _ rtb
     have sva:=RF4 rva
     go_wp2_with fail
     have dq_vb:w.heap.size+1+1<W16.heap.size:=by omega
     have dwd_vb:w.heap.size+1+1+1<W16.heap.size:=by omega
     have sB:=hB.size
     refine world_cut (fun X=>Below w.heap.size w X∧Row X (w.heap.size+1+1) (.cells #[.int .i64 z,.string (cutS xa),.string (cutS xb),.string (cutS xc),.string (cutS xd)] 32)∧Row X (w.heap.size+1+1+1) (.cells #[.string (cutS w1),.string (cutS w2)] 23)∧Row X B (.cells cur 26)∧Row X hb (.cells #[.string A1,.string A2,.slice P N C] 26)∧Row X tb (.cells tcur 3)∧Row X W14.heap.size (.cells #[.string v1,.string v2,.string v3,.string v4] 30)∧Row X W16.heap.size (.cells #[.string v1,.string v2,.string v3,.string v4] 30)∧HI2 n0 X cur∧RMem X P N C L) ⟨BW,RWm,RWm,RWm,RWm,RWm,RWm,RWm,(by first | with_reducible exact HI2.set hhi hqn _ _ | exact HI2.below hhi BW),(by first | with_reducible exact RMem.set hmi hlo hqn _ _ | exact RMem.below hmi BW)⟩ ?_
     clear rq
     clear sq
     clear rwd
     clear swd
     clear rbb
     clear sbb
     clear rh
     clear sh
     clear rtb
     clear stb
     clear rva
     clear sva
     clear hB sB hhi hmi
     rintro V17 ⟨hB,rq,rwd,rbb,rh,rtb,rva,rvb,hhi,hmi⟩
     have sq:=RFz5 rq
     have swd:=RFz2 rwd
     have sbb:=Fbb _ rbb
     have sh:=RF3 rh
     have stb:=Ftb _ rtb
     have sva:=RF4 rva
     have svb:=RF4 rvb
     refine (U1_ _ hmi (he.below hB)).mono ?_
     rintro e W18 ⟨rfl,h1⟩
     replace hhi:=HI2.below hhi h1
     replace hmi:=RMem.below hmi h1
     have stp:=St7 hB h1 rq rwd rbb rh rtb rva rvb;clear hB h1 rq sq rwd swd rbb sbb rh sh rtb stb rva sva rvb svb
     obtain ⟨hB,rq,rwd,rbb,rh,rtb,rva,rvb⟩:=stp
     have sq:=RFz5 rq
     have swd:=RFz2 rwd
     have sbb:=Fbb _ rbb
     have sh:=RF3 rh
     have stb:=Ftb _ rtb
     have sva:=RF4 rva
     have svb:=RF4 rvb
     go_wp2_with fail
     refine (U2_ _ hmi (he.below hB)).mono ?_
     rintro e W19 ⟨rfl,h1⟩
     replace hhi:=HI2.below hhi h1
     replace hmi:=RMem.below hmi h1
     have stp:=St7 hB h1 rq rwd rbb rh rtb rva rvb;clear hB h1 rq sq rwd swd rbb sbb rh sh rtb stb rva sva rvb svb
     obtain ⟨hB,rq,rwd,rbb,rh,rtb,rva,rvb⟩:=stp
     have sq:=RFz5 rq
     have swd:=RFz2 rwd
     have sbb:=Fbb _ rbb
     have sh:=RF3 rh
     have stb:=Ftb _ rtb
     have sva:=RF4 rva
     have svb:=RF4 rvb
     go_wp2_with fail
     refine wp_region_items 28 [.val (.agg #[.string v1,.string v2,.string v3,.string v4]),.val (.agg #[.string v1,.string v2,.string v3,.string v4]),.val (.bool false),.val (.bool false),.val (.int .i64 ke),.val (.int .i64 ke),.val (.bool false),.val (.bool false),.val (.bool false),.val (.int .i64 mu),.val (.int .i64 mu),.val (.bool false),.val (.bool false),.val (.bool false),.val (.bool bu),.val (.bool bu),.val (.bool false),.val (.bool false),.val (.bool false),.val (.agg #[.string A1,.string A2,.slice P N C]),.val (.int .i64 T),.say (SayKn s1 s2 kk lk),.val (.agg #[.string A1,.string A2,.slice P N C]),.val (.int .i64 T),.say (SayKn s1 s2 kk lk),.say (SayB true),.say (SayB false),.say (SayB false)] (by kernel_rfl) (by kernel_rfl) ⟨SayKn.mono _ _ _ _,⟨SayKn.mono _ _ _ _,⟨SayB.mono _,⟨SayB.mono _,⟨SayB.mono _,trivial⟩⟩⟩⟩⟩ (allItems.cons (qi1 fun X h=>RF4 (Row.below rva h)) (allItems.cons (qi1 fun X h=>RF4 (Row.below rvb h)) (allItems.cons qi0 (allItems.cons qi0 (allItems.cons qi0 (allItems.cons qi0 (allItems.cons qi0 (allItems.cons qi0 (allItems.cons qi0 (allItems.cons qi0 (allItems.cons qi0 (allItems.cons qi0 (allItems.cons qi0 (allItems.cons qi0 (allItems.cons qi0 (allItems.cons qi0 (allItems.cons qi0 (allItems.cons qi0 (allItems.cons qi0 (allItems.cons (qi1 fun X h=>RF3 (Row.below rh h)) (allItems.cons qi0 (allItems.cons (qi3 fun X h=>K1_ X (hmi.below h) (he.below (hB.trans (h.mono hB.size)))) (allItems.cons (qi1 fun X h=>RF3 (Row.below rh h)) (allItems.cons qi0 (allItems.cons (qi3 fun X h=>K2_ X (hmi.below h) (he.below (hB.trans (h.mono hB.size)))) (allItems.cons (qId (by intro ρ X qX qc qg qf qt qd;simp [depsSay,itemSp,QItem.sp,Region.binds] at qd;obtain ⟨⟨p1,c1,e1,h1⟩,⟨p2,c2,e2,h2⟩,e3⟩:=qd;simp [Region.wanted,yieldedBy,quietly,QItem.sp,execOp,go_sem,foreign,qc,qt,qf,e1,e2,e3];exact ⟨Below.refl _ _,(r12sameR p1 p2 kk c1 c2 HLK.out (by omega) X h1 h2).mono (by rintro e Y ⟨rfl,h3⟩;exact ⟨_,rfl,rfl,h3⟩)⟩)) (allItems.cons (qId (by intro ρ X qX qc qg qf qt qd;simp [depsSay,itemSp,QItem.sp,Region.binds] at qd;simp only [SayB] at qd;obtain ⟨e,e2⟩:=qd;simp [Region.wanted,yieldedBy,quietly,QItem.sp,execOp,go_sem,foreign,qc,qt,qf,Below.refl,e,e2];exact rfl)) (allItems.cons (qId (by intro ρ X qX qc qg qf qt qd;simp [depsSay,itemSp,QItem.sp,Region.binds] at qd;simp only [SayB] at qd;obtain ⟨e,e2⟩:=qd;simp [Region.wanted,yieldedBy,quietly,QItem.sp,execOp,go_sem,foreign,qc,qt,qf,Below.refl,e,e2];exact rfl)) trivial)))))))))))))))))))))))))))) ?_
     rintro W h1
     replace hhi:=HI2.below hhi h1
     replace hmi:=RMem.below hmi h1
     have stp:=St7 hB h1 rq rwd rbb rh rtb rva rvb;clear hB h1 rq sq rwd swd rbb sbb rh sh rtb stb rva sva rvb svb
     obtain ⟨hB,rq,rwd,rbb,rh,rtb,rva,rvb⟩:=stp
     have sq:=RFz5 rq
     have swd:=RFz2 rwd
     have sbb:=Fbb _ rbb
     have sh:=RF3 rh
     have stb:=Ftb _ rtb
     have sva:=RF4 rva
     have svb:=RF4 rvb
     simp only [setItems,List.setIfInBounds_toArray,List.set_cons_succ,List.set_cons_zero,List.take_succ_cons,List.take_zero,List.drop_succ_cons,List.drop_zero]
     rintro _ -
     rintro _ -
     rintro _ rfl
     rintro _ rfl
     rintro _ rfl
     go_wp2_with fail
     have sB:=hB.size
     refine world_cut (fun X=>Below w.heap.size w X∧Row X (w.heap.size+1+1) (.cells #[.int .i64 T,.string (cutS xa),.string (cutS xb),.string (cutS xc),.string (cutS xd)] 32)∧Row X (w.heap.size+1+1+1) (.cells #[.string (cutS w1),.string (cutS w2)] 23)∧Row X B (.cells cur 26)∧Row X hb (.cells #[.string A1,.string A2,.slice P N C] 26)∧Row X tb (.cells tcur 3)∧Row X W14.heap.size (.cells #[.string v1,.string v2,.string v3,.string v4] 30)∧Row X W16.heap.size (.cells #[.string v1,.string v2,.string v3,.string v4] 30)∧HI2 n0 X cur∧RMem X P N C L) ⟨BW,RWm,RWm,RWm,RWm,RWm,RWm,RWm,(by first | with_reducible exact HI2.set hhi hqn _ _ | exact HI2.below hhi BW),(by first | with_reducible exact RMem.set hmi hlo hqn _ _ | exact RMem.below hmi BW)⟩ ?_
     clear rq
     clear sq
     clear rwd
     clear swd
     clear rbb
     clear sbb
     clear rh
     clear sh
     clear rtb
     clear stb
     clear rva
     clear sva
     clear rvb
     clear svb
     clear hB sB hhi hmi
     rintro V20 ⟨hB,rq,rwd,rbb,rh,rtb,rva,rvb,hhi,hmi⟩
     have sq:=RFz5 rq
     have swd:=RFz2 rwd
     have sbb:=Fbb _ rbb
     have sh:=RF3 rh
     have stb:=Ftb _ rtb
     have sva:=RF4 rva
     have svb:=RF4 rvb
     refine (D1_ _ hmi (he.below hB)).mono ?_
     rintro e W21 ⟨pga,cga,hga,rfl,h1⟩
     replace hhi:=HI2.below hhi h1
     replace hmi:=RMem.below hmi h1
     have stp:=St7 hB h1 rq rwd rbb rh rtb rva rvb;clear hB h1 rq sq rwd swd rbb sbb rh sh rtb stb rva sva rvb svb
     obtain ⟨hB,rq,rwd,rbb,rh,rtb,rva,rvb⟩:=stp
     have sq:=RFz5 rq
     have swd:=RFz2 rwd
     have sbb:=Fbb _ rbb
     have sh:=RF3 rh
     have stb:=Ftb _ rtb
     have sva:=RF4 rva
     have svb:=RF4 rvb
     go_wp2_with fail
     have dq_ga:w.heap.size+1+1<W21.heap.size:=by omega
     have dwd_ga:w.heap.size+1+1+1<W21.heap.size:=by omega
     have sB:=hB.size
     refine world_cut (fun X=>Below w.heap.size w X∧Row X (w.heap.size+1+1) (.cells #[.int .i64 T,.string (cutS xa),.string (cutS xb),.string (cutS xc),.string (cutS xd)] 32)∧Row X (w.heap.size+1+1+1) (.cells #[.string (cutS w1),.string (cutS w2)] 23)∧Row X B (.cells cur 26)∧Row X hb (.cells #[.string A1,.string A2,.slice P N C] 26)∧Row X tb (.cells tcur 3)∧Row X W14.heap.size (.cells #[.string v1,.string v2,.string v3,.string v4] 30)∧Row X W16.heap.size (.cells #[.string v1,.string v2,.string v3,.string v4] 30)∧Row X W21.heap.size (.cells #[.string g1,.string g2,.slice pga la.length cga] 26)∧HI2 n0 X cur∧RMem X P N C L∧RAt X pga la) ⟨BW,RWm,RWm,RWm,RWm,RWm,RWm,RWm,RWm,(by first | with_reducible exact HI2.set hhi hqn _ _ | exact HI2.below hhi BW),(by first | with_reducible exact RMem.set hmi hlo hqn _ _ | exact RMem.below hmi BW),(by first | exact RAt.below hga BW)⟩ ?_
     clear rq
     clear sq
     clear rwd
     clear swd
     clear rbb
     clear sbb
     clear rh
     clear sh
     clear rtb
     clear stb
     clear rva
     clear sva
     clear rvb
     clear svb
     clear hB sB hhi hmi hga
     rintro V22 ⟨hB,rq,rwd,rbb,rh,rtb,rva,rvb,rga,hhi,hmi,hga⟩
     have sq:=RFz5 rq
     have swd:=RFz2 rwd
     have sbb:=Fbb _ rbb
     have sh:=RF3 rh
     have stb:=Ftb _ rtb
     have sva:=RF4 rva
     have svb:=RF4 rvb
     have sga:=RF3 rga
     refine (D2_ _ hmi (he.below hB)).mono ?_
     rintro e W23 ⟨pgb,cgb,hgb,rfl,h1⟩
     replace hhi:=HI2.below hhi h1
     replace hmi:=RMem.below hmi h1
     replace hga:=RAt.below hga h1
     have stp:=St8 hB h1 rq rwd rbb rh rtb rva rvb rga;clear hB h1 rq sq rwd swd rbb sbb rh sh rtb stb rva sva rvb svb rga sga
     obtain ⟨hB,rq,rwd,rbb,rh,rtb,rva,rvb,rga⟩:=stp
     have sq:=RFz5 rq
     have swd:=RFz2 rwd
     have sbb:=Fbb _ rbb
     have sh:=RF3 rh
     have stb:=Ftb _ rtb
     have sva:=RF4 rva
     have svb:=RF4 rvb
     have sga:=RF3 rga
     go_wp2_with fail
     have dq_gb:w.heap.size+1+1<W23.heap.size:=by omega
     have dwd_gb:w.heap.size+1+1+1<W23.heap.size:=by omega
     have sB:=hB.size
     refine world_cut (fun X=>Below w.heap.size w X∧Row X (w.heap.size+1+1) (.cells #[.int .i64 T,.string (cutS xa),.string (cutS xb),.string (cutS xc),.string (cutS xd)] 32)∧Row X (w.heap.size+1+1+1) (.cells #[.string (cutS w1),.string (cutS w2)] 23)∧Row X B (.cells cur 26)∧Row X hb (.cells #[.string A1,.string A2,.slice P N C] 26)∧Row X tb (.cells tcur 3)∧Row X W14.heap.size (.cells #[.string v1,.string v2,.string v3,.string v4] 30)∧Row X W16.heap.size (.cells #[.string v1,.string v2,.string v3,.string v4] 30)∧Row X W21.heap.size (.cells #[.string g1,.string g2,.slice pga la.length cga] 26)∧Row X W23.heap.size (.cells #[.string g1,.string g2,.slice pgb la.length cgb] 26)∧HI2 n0 X cur∧RMem X P N C L∧RAt X pga la∧RAt X pgb la) ⟨BW,RWm,RWm,RWm,RWm,RWm,RWm,RWm,RWm,RWm,(by first | with_reducible exact HI2.set hhi hqn _ _ | exact HI2.below hhi BW),(by first | with_reducible exact RMem.set hmi hlo hqn _ _ | exact RMem.below hmi BW),(by first | exact RAt.below hga BW),(by first | exact RAt.below hgb BW)⟩ ?_
     clear rq
     clear sq
     clear rwd
     clear swd
     clear rbb
     clear sbb
     clear rh
     clear sh
     clear rtb
     clear stb
     clear rva
     clear sva
     clear rvb
     clear svb
     clear rga
     clear sga
     clear hB sB hhi hmi hga hgb
     rintro V24 ⟨hB,rq,rwd,rbb,rh,rtb,rva,rvb,rga,rgb,hhi,hmi,hga,hgb⟩
     have sq:=RFz5 rq
     have swd:=RFz2 rwd
     have sbb:=Fbb _ rbb
     have sh:=RF3 rh
     have stb:=Ftb _ rtb
     have sva:=RF4 rva
     have svb:=RF4 rvb
     have sga:=RF3 rga
     have sgb:=RF3 rgb
     refine (r12sameR pga pgb la.length cga cgb rfl (by omega) _ hga hgb).mono ?_
     rintro e W25 ⟨rfl,h1⟩
     clear sq
     clear swd
     clear sbb
     clear sh
     clear stb
     clear sva
     clear svb
     clear sga
     clear sgb
     replace hB:=hB.trans (h1.mono hB.size)
     replace rq:=Row.below rq h1
     replace rwd:=Row.below rwd h1
     replace rbb:=Row.below rbb h1
     replace rh:=Row.below rh h1
     replace rtb:=Row.below rtb h1
     replace rva:=Row.below rva h1
     replace rvb:=Row.below rvb h1
     replace rga:=Row.below rga h1
     replace rgb:=Row.below rgb h1
     replace hhi:=HI2.below hhi h1
     replace hmi:=RMem.below hmi h1
     replace hga:=RAt.below hga h1
     replace hgb:=RAt.below hgb h1
     clear h1
     have sq:=RFz5 rq
     have swd:=RFz2 rwd
     have sbb:=Fbb _ rbb
     have sh:=RF3 rh
     have stb:=Ftb _ rtb
     have sva:=RF4 rva
     have svb:=RF4 rvb
     have sga:=RF3 rga
     have sgb:=RF3 rgb
     go_wp2
     go_roundw
     case rel=>exact ⟨k+1,T,by go_num,by omega,hhi,hmi,BW,RWm,RWm,RWm,RWm,RWm⟩
     case measure=>simp [RowKit.intOf];omega
    ·obtain rfl:k=2:=by omega
     obtain ⟨cl,MC⟩:=cons_both HRR.out
     obtain ⟨uv,MV⟩:=valid_both HRR.out
     have C1_:=fun W h H=>cv_at (MC P N C W h H).1
     have C2_:=fun W h H=>cv_at (MC P N C W h H).2
     have V1_:=fun W h H=>(MV P N C W h H).1
     have V2_:=fun W h H=>(MV P N C W h H).2
     unfold BoolOk at V1_ V2_
     clear MC MV
     have sq:=RFz5 rq
     have swd:=RFz2 rwd
     have Fbb:∀ X,Row X B (.cells cur 26)→(B<X.heap.size):=fun X h=>h.1
     have sbb:=Fbb _ rbb
     have sh:=RF3 rh
     have Ftb:∀ X,Row X tb (.cells tcur 3)→(tb<X.heap.size):=fun X h=>h.1
     have stb:=Ftb _ rtb
     go_wp2_with fail
     clear rtb
     clear stb
     clear Ftb
     refine (C1_ _ hmi (he.below hB)).mono ?_
     rintro e W14 ⟨pla,cla,hla,rfl,h1⟩
     replace hhi:=HI2.below hhi h1
     replace hmi:=RMem.below hmi h1
     have stp:=St4 hB h1 rq rwd rbb rh;clear hB h1 rq sq rwd swd rbb sbb rh sh
     obtain ⟨hB,rq,rwd,rbb,rh⟩:=stp
     have sq:=RFz5 rq
     have swd:=RFz2 rwd
     have sbb:=Fbb _ rbb
     have sh:=RF3 rh
     go_wp2_with fail
     refine (C2_ _ hmi (he.below hB)).mono ?_
     rintro e W15 ⟨plb,clb,hlb,rfl,h1⟩
     replace hhi:=HI2.below hhi h1
     replace hmi:=RMem.below hmi h1
     replace hla:=CAt.below hla h1
     have stp:=St4 hB h1 rq rwd rbb rh;clear hB h1 rq sq rwd swd rbb sbb rh sh
     obtain ⟨hB,rq,rwd,rbb,rh⟩:=stp
     have sq:=RFz5 rq
     have swd:=RFz2 rwd
     have sbb:=Fbb _ rbb
     have sh:=RF3 rh
     go_wp2_with fail
     refine wp_region_vals [.agg #[.string A1,.string A2,.slice P N C],.bool uv,.agg #[.string A1,.string A2,.slice P N C],.bool uv,.bool false,.bool false,.slice pla cl.length cla,.int .i64 (cl.length:Int),.slice plb cl.length clb,.int .i64 (cl.length:Int),.bool false,.bool false] (by kernel_rfl) (by kernel_rfl) rfl (allVals.cons (qv1 fun X h=>RF3 (Row.below rh h)) (allVals.cons (qv2 fun X h=>V1_ X (hmi.below h) (he.below (hB.trans (h.mono hB.size)))) (allVals.cons (qv1 fun X h=>RF3 (Row.below rh h)) (allVals.cons (qv2 fun X h=>V2_ X (hmi.below h) (he.below (hB.trans (h.mono hB.size)))) (allVals.cons qv0 (allVals.cons qv0 (allVals.cons qv0 (allVals.cons qv0 (allVals.cons qv0 (allVals.cons qv0 (allVals.cons qv0 (allVals.cons qv0 trivial)))))))))))) ?_
     rintro W h1
     replace hhi:=HI2.below hhi h1
     replace hmi:=RMem.below hmi h1
     replace hla:=CAt.below hla h1
     replace hlb:=CAt.below hlb h1
     have stp:=St4 hB h1 rq rwd rbb rh;clear hB h1 rq sq rwd swd rbb sbb rh sh
     obtain ⟨hB,rq,rwd,rbb,rh⟩:=stp
     have sq:=RFz5 rq
     have swd:=RFz2 rwd
     have sbb:=Fbb _ rbb
     have sh:=RF3 rh
     simp only [setVals,List.setIfInBounds_toArray,List.set_cons_succ,List.set_cons_zero]
     go_wp2_with fail
     clear sq
     clear swd
     clear sbb
     clear sh
     go_loopw [33] (fun v33 wr=>∃ j:Nat,v33 = .int .i64 (j:Int)∧j≤cl.length∧HI2 n0 wr cur∧CAt wr pla cl∧CAt wr plb cl∧Below w.heap.size w wr∧Row wr (w.heap.size+1+1) (.cells #[.int .i64 z,.string (cutS xa),.string (cutS xb),.string (cutS xc),.string (cutS xd)] 32)∧Row wr (w.heap.size+1+1+1) (.cells #[.string (cutS w1),.string (cutS w2)] 23)∧Row wr B (.cells cur 26)) (fun v33 _=>(cl.length - RowKit.intOf v33).toNat)
     case atStart=>exact ⟨0,rfl,Nat.zero_le _,hhi,hla,hlb,hB,rq,rwd,rbb⟩
     case round =>
      clear hB rq rwd rbb hhi hla hlb hmi
      obtain ⟨j,rfl,hj,hhi,hla,hlb,hB,rq,rwd,rbb⟩:=hrel
      rcases Nat.lt_or_ge j cl.length with hlj | hgj
      ·have hjL:=CAt.len hla
       have hjI:(j:Int)<(cl.length:Int):=by omega
       obtain ⟨x1,hx1⟩:∃ x,x=(cl[j]).1:=⟨_,rfl⟩
       obtain ⟨x2,hx2⟩:∃ x,x=(cl[j]).2:=⟨_,rfl⟩
       obtain ⟨g,cg,rfl,rg,g0,g1⟩:=CAt.at hla hlj
       obtain ⟨k,ck,rfl,rk,k0,k1⟩:=CAt.at hlb hlj
       rw [← hx1] at g0 k0
       rw [← hx2] at g1 k1
       clear hx1 hx2
       have sq:=RFz5 rq
       have swd:=RFz2 rwd
       have Fbb:∀ X,Row X B (.cells cur 26)→(B<X.heap.size):=fun X h=>h.1
       have sbb:=Fbb _ rbb
       have Fg:∀ X,Row X g (.cells cg 27)→(g<X.heap.size∧X.cell? ⟨g,j * 2,none⟩=some (.int .i64 (x1:Int))∧X.cell? ⟨g,j * 2+1,none⟩=some (.int .i64 (x2:Int))):=fun X h=>⟨h.1,Row.cell_at h _ g0,Row.cell_at h _ g1⟩
       have sg:=Fg _ rg
       have Fk:∀ X,Row X k (.cells ck 27)→(k<X.heap.size∧X.cell? ⟨k,j * 2,none⟩=some (.int .i64 (x1:Int))∧X.cell? ⟨k,j * 2+1,none⟩=some (.int .i64 (x2:Int))):=fun X h=>⟨h.1,Row.cell_at h _ k0,Row.cell_at h _ k1⟩
       have sk:=Fk _ rk
       go_wp2_with fail
       refine wp_region_vals [.slice (some ⟨g,0,none⟩) cl.length cla,.int .i64 (j:Int),.pointer (some ⟨g,j * 2,none⟩),.agg #[.int .i64 (x1:Int),.int .i64 (x2:Int)],.slice (some ⟨k,0,none⟩) cl.length clb,.int .i64 (j:Int),.pointer (some ⟨k,j * 2,none⟩),.agg #[.int .i64 (x1:Int),.int .i64 (x2:Int)],.bool false] (by kernel_rfl) (by kernel_rfl) rfl (allVals.cons qv0 (allVals.cons qv0 (allVals.cons (qvf hjI) (allVals.cons (qv1 fun X h=>Fg X (Row.below rg h)) (allVals.cons qv0 (allVals.cons qv0 (allVals.cons (qvf hjI) (allVals.cons (qv1 fun X h=>Fk X (Row.below rk h)) (allVals.cons (qvf (eq2s (x1:Int) (x2:Int)).out) trivial))))))))) ?_
       rintro W h1
       replace hhi:=HI2.below hhi h1
       replace hla:=CAt.below hla h1
       replace hlb:=CAt.below hlb h1
       have stp:=St5 hB h1 rq rwd rbb rg rk;clear hB h1 rq sq rwd swd rbb sbb rg sg rk sk
       obtain ⟨hB,rq,rwd,rbb,rg,rk⟩:=stp
       have sq:=RFz5 rq
       have swd:=RFz2 rwd
       have sbb:=Fbb _ rbb
       have sg:=Fg _ rg
       have sk:=Fk _ rk
       simp only [setVals,List.setIfInBounds_toArray,List.set_cons_succ,List.set_cons_zero]
       go_wp2
       go_roundw
       case rel=>exact ⟨j+1,by go_num,by omega,hhi,hla,hlb,BW,RWm,RWm,RWm⟩
       case measure=>simp [RowKit.intOf];omega
      ·have hjL:¬ ((j:Int)<(cl.length:Int)):=by omega
       have sq:=RFz5 rq
       have swd:=RFz2 rwd
       have Fbb:∀ X,Row X B (.cells cur 26)→(B<X.heap.size):=fun X h=>h.1
       have sbb:=Fbb _ rbb
       go_wp2
       go_roundw
       case rel=>exact ⟨i+1,z,by go_num,by omega,hhi,BW,RWm,RWm,RWm⟩
       case measure=>simp [RowKit.intOf];omega
  ·obtain rfl:i=2:=by omega
   have sq:=RFz5 rq
   have swd:=RFz2 rwd
   have Fbb:∀ X,Row X B (.cells cur 26)→(B<X.heap.size):=fun X h=>h.1
   have sbb:=Fbb _ rbb
   go_wp2
   go_ret
   exact ⟨rfl,hB⟩
end Go.Proofs.YtnokpldomlmamaaGreatDoor
