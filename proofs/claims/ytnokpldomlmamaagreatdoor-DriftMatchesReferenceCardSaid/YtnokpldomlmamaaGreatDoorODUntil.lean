/-
 Fractions that are not valid: a difference of them is refused. drift.Until: up to when what is known stays within a width.
-/
import Derived.Test.YtnokpldomlmamaaGreatDoorODAdd
import Derived.Test.YtnokpldomlmamaaGreatDoorOTail2
set_option linter.unusedSimpArgs false
set_option linter.unusedVariables false
set_option maxRecDepth 100000
set_option maxHeartbeats 16000000
namespace Go.Proofs.YtnokpldomlmamaaGreatDoor
open Go Go.RowKit Go.Lib Go.Shelf
theorem Row.belowN {n:Nat} {W W':World} {b:Nat} {o:Obj} (h:Row W b o) (hb:b<n) (hB:Below n W W'):Row W' b o:=⟨Nat.lt_of_lt_of_le h.1 hB.size,(hB.block b hb).trans h.2⟩
theorem wdo_bad (p:Nat) (f:Value) (a b:ByteArray) (w:World) (hk:Row w p (.cells #[.bool true] 142)):Calls Tryz.prog 179 #[.pointer (some ⟨p,0,none⟩),f,.string a,.string b] w (fun e w'=>e = .returned (.string ⟨#[]⟩)∧Below w.heap.size w w'):=by
 have hB:Below w.heap.size w w:=Below.refl _ _
 have rk:=hk
 have sk:=RF1 rk
 go_enter Tryz.func179, Tryz.ntmps179
 go_wp2
 go_ret
 exact ⟨rfl,hB⟩
theorem wmul_bad (p:Nat) (a b:ByteArray) (w:World) (hk:Row w p (.cells #[.bool true] 142)):Calls Tryz.prog 114 #[.pointer (some ⟨p,0,none⟩),.string a,.string b] w (fun e w'=>e = .returned (.string ⟨#[]⟩)∧Below w.heap.size w w'):=by
 have hB:Below w.heap.size w w:=Below.refl _ _
 have MD:=fun W a b hk=>wdo_bad p (.func (.func 183) #[] #[]) a b W hk
 have rk:=hk
 have sk:=RF1 rk
 go_enter Tryz.func114, Tryz.ntmps114
 go_wp2_with fail
 refine (MD _ _ _ rk).mono ?_
 rintro e W1 ⟨rfl,h1⟩
 clear sk
 replace hB:=hB.trans (h1.mono hB.size)
 replace rk:=Row.below rk h1
 clear h1
 have sk:=RF1 rk
 go_wp2
 go_ret
 exact ⟨rfl,hB⟩
theorem wreduced_bad (p:Nat) (a b:ByteArray) (w:World) (hk:Row w p (.cells #[.bool true] 142)):Calls Tryz.prog 115 #[.pointer (some ⟨p,0,none⟩),.string a,.string b] w (fun e w'=>e = .returned (.tuple #[.agg #[.string ⟨#[]⟩,.string ⟨#[]⟩],.int .i64 40])∧Below w.heap.size w w'):=by
 have hB:Below w.heap.size w w:=Below.refl _ _
 have rk:=hk
 have sk:=RF1 rk
 go_enter Tryz.func115, Tryz.ntmps115
 go_wp2_with fail
 skip
 have sB:=hB.size
 refine post_cut (fun X=>Below w.heap.size w X∧Row X w.heap.size (.cells #[.string ⟨#[]⟩,.string ⟨#[]⟩] 23)) ⟨BW,RWh⟩ ?_
 clear rk
 clear sk
 clear hB sB
 rintro V1 ⟨hB,ro⟩
 have so:=RFz2 ro
 refine bodyPost_ret (v := .tuple #[.agg #[.string ⟨#[]⟩,.string ⟨#[]⟩],.int .i64 40]) ?res rfl ⟨rfl,hB⟩
 case res=>simp [results,Tryz.results115, go_sem,so]
theorem wcheck_bad (p s:Nat) (w:World) (hps:p≠s) (hk:Row w p (.cells #[.bool false] 142)) (hs:Row w s (.cells #[.string ⟨#[]⟩,.string ⟨#[]⟩,.string ⟨#[]⟩,.string ⟨#[]⟩] 23)):Calls Tryz.prog 113 #[.pointer (some ⟨p,0,none⟩),.slice (some ⟨s,0,none⟩) 2 2] w (fun e w'=>(∃ v,e = .returned v)∧Row w' p (.cells #[.bool true] 142)∧∀ n,n≤p→n≤w.heap.size→Below n w w'):=by
 have hB:Below w.heap.size w w:=Below.refl _ _
 have MV:=fun W=>qvalid_zero W
 unfold BoolOk at MV
 have rk:=hk
 have sk:=RFz1 rk
 have rs:=hs
 have ss:=RF4 rs
 have dps:=hps
 go_enter Tryz.func113, Tryz.ntmps113
 go_wp2_with fail
 refine wp_loop_unroll (loopWp_step ?_)
 go_wp2_with fail
 have dk_r:p<w.heap.size:=by omega
 have sB:=hB.size
 refine world_cut (fun X=>Below w.heap.size w X∧Row X p (.cells #[.bool false] 142)∧Row X s (.cells #[.string ⟨#[]⟩,.string ⟨#[]⟩,.string ⟨#[]⟩,.string ⟨#[]⟩] 23)∧Row X w.heap.size (.cells #[.string ⟨#[]⟩,.string ⟨#[]⟩] 23)) ⟨BW,RWh,RWh,RWh⟩ ?_
 clear rk
 clear sk
 clear rs
 clear ss
 clear hB sB
 rintro V1 ⟨hB,rk,rs,rr⟩
 have sk:=RFz1 rk
 have ss:=RF4 rs
 have sr:=RF2 rr
 refine (MV _).mono ?_
 rintro e W2 ⟨rfl,h1⟩
 clear sk
 clear ss
 clear sr
 replace hB:=hB.trans (h1.mono hB.size)
 replace rk:=Row.below rk h1
 replace rs:=Row.below rs h1
 replace rr:=Row.below rr h1
 clear h1
 have sk:=RFz1 rk
 have ss:=RF4 rs
 have sr:=RF2 rr
 go_wp2_with fail
 refine loopWp_step ?_
 go_wp2_with fail
 refine loopWp_step ?_
 go_wp2_with fail
 have sB:=hB.size
 go_end0
 exact ⟨⟨_,rfl⟩,RWh,fun n h1 h2=>Below.alloc (Below.setCell (Below.setCell (hB.mono h2) h1 _) h1 _) (by simp;omega) _⟩
theorem wsum_bad (F:FuncId) (f:Value) (hf:f = .func (.func F) #[] #[]) (w:World):Calls Tryz.prog 110 #[f,.agg #[.string ⟨#[]⟩,.string ⟨#[]⟩],.agg #[.string ⟨#[]⟩,.string ⟨#[]⟩]] w (fun e w'=>e = .returned (.tuple #[.agg #[.string ⟨#[]⟩,.string ⟨#[]⟩],.int .i64 40])∧Below w.heap.size w w'):=by
 clear hf
 have hB:Below w.heap.size w w:=Below.refl _ _
 have MC:=fun W s p h1 h2 h3=>wcheck_bad p s W h1 h2 h3
 go_enter Tryz.func110, Tryz.ntmps110
 go_wp2_with fail
 have d0_o:w.heap.size≤w.heap.size+1+1:=by have:=hB.size;omega
 have d0_k:w.heap.size≤w.heap.size+1+1+1:=by have:=hB.size;omega
 have sB:=hB.size
 refine world_cut (fun X=>Below w.heap.size w X∧Row X w.heap.size (.cells #[.string ⟨#[]⟩,.string ⟨#[]⟩] 23)∧Row X (w.heap.size+1) (.cells #[.string ⟨#[]⟩,.string ⟨#[]⟩] 23)∧Row X (w.heap.size+1+1) (.cells #[.string ⟨#[]⟩,.string ⟨#[]⟩] 23)∧Row X (w.heap.size+1+1+1) (.cells #[.bool false] 142)∧Row X (w.heap.size+1+1+1+1) (.cells #[.string ⟨#[]⟩,.string ⟨#[]⟩,.string ⟨#[]⟩,.string ⟨#[]⟩] 23)) ⟨BW,RWh,RWh,RWh,RWh,RWh⟩ ?_
 clear hB sB
 rintro V1 ⟨hB,ra,rb,ro,rk,rs⟩
 have sa:=RF2 ra
 have sb:=RF2 rb
 have so:=RFz2 ro
 have sk:=RFz1 rk
 have ss:=RF4 rs
 refine (MC _ _ _ (by omega) rk rs).mono ?_
 rintro e W1 ⟨⟨v,rfl⟩,rk2,h9⟩
 have h1:=h9 (w.heap.size+1+1+1) (Nat.le_refl _) (by omega)
 clear sa
 clear sb
 clear so
 clear sk
 clear ss
 replace hB:=hB.trans (h9 w.heap.size (by omega) hB.size)
 replace ra:=Row.belowN ra (by omega) h1
 replace rb:=Row.belowN rb (by omega) h1
 replace ro:=Row.belowN ro (by omega) h1
 clear rs rk h1 h9
 have rk:=rk2
 clear rk2
 skip
 skip
 have sa:=RF2 ra
 have sb:=RF2 rb
 have so:=RFz2 ro
 have sk:=RFz1 rk
 have MM:=fun W a b hk=>wmul_bad (w.heap.size+1+1+1) a b W hk
 have MD:=fun W a b hk=>wdo_bad (w.heap.size+1+1+1) f a b W hk
 have MR:=fun W a b hk=>wreduced_bad (w.heap.size+1+1+1) a b W hk
 go_wp2_with fail
 refine wp_region_vals [.pointer (some ⟨w.heap.size+1+1+1,0,none⟩),f,.pointer (some ⟨w.heap.size+1+1+1,0,none⟩),.pointer (some ⟨w.heap.size,0,none⟩),.string ⟨#[]⟩,.pointer (some ⟨w.heap.size+1,1,none⟩),.string ⟨#[]⟩,.string ⟨#[]⟩,.pointer (some ⟨w.heap.size+1+1+1,0,none⟩),.pointer (some ⟨w.heap.size+1,0,none⟩),.string ⟨#[]⟩,.pointer (some ⟨w.heap.size,1,none⟩),.string ⟨#[]⟩,.string ⟨#[]⟩,.string ⟨#[]⟩,.string ⟨#[]⟩] (by kernel_rfl) (by kernel_rfl) rfl (allVals.cons qv0 (allVals.cons qv0 (allVals.cons qv0 (allVals.cons qv0 (allVals.cons (qv1 fun X h=>RF2 (Row.below ra h)) (allVals.cons qv0 (allVals.cons (qv1 fun X h=>RF2 (Row.below rb h)) (allVals.cons (qv2 fun X h=>MM X _ _ (Row.below rk h)) (allVals.cons qv0 (allVals.cons qv0 (allVals.cons (qv1 fun X h=>RF2 (Row.below rb h)) (allVals.cons qv0 (allVals.cons (qv1 fun X h=>RF2 (Row.below ra h)) (allVals.cons (qv2 fun X h=>MM X _ _ (Row.below rk h)) (allVals.cons (qv2 fun X h=>MD X _ _ (Row.below rk h)) (allVals.cons qv0 trivial)))))))))))))))) ?_
 rintro W h1
 clear sa
 clear sb
 clear so
 clear sk
 replace hB:=hB.trans (h1.mono hB.size)
 replace ra:=Row.below ra h1
 replace rb:=Row.below rb h1
 replace ro:=Row.below ro h1
 replace rk:=Row.below rk h1
 clear h1
 have sa:=RF2 ra
 have sb:=RF2 rb
 have so:=RFz2 ro
 have sk:=RFz1 rk
 simp only [setVals,List.setIfInBounds_toArray,List.set_cons_succ,List.set_cons_zero]
 go_wp2_with fail
 clear ra
 clear sa
 skip
 clear rb
 clear sb
 skip
 refine (MM _ _ _ rk).mono ?_
 rintro e W2 ⟨rfl,h1⟩
 clear so
 clear sk
 replace hB:=hB.trans (h1.mono hB.size)
 replace ro:=Row.below ro h1
 replace rk:=Row.below rk h1
 clear h1
 have so:=RFz2 ro
 have sk:=RFz1 rk
 go_wp2_with fail
 refine (MR _ _ _ rk).mono ?_
 rintro e W3 ⟨rfl,h1⟩
 clear so
 clear sk
 replace hB:=hB.trans (h1.mono hB.size)
 replace ro:=Row.below ro h1
 replace rk:=Row.below rk h1
 clear h1
 have so:=RFz2 ro
 have sk:=RFz1 rk
 go_wp2_with fail
 skip
 have sB:=hB.size
 refine post_cut (fun X=>Below w.heap.size w X∧Row X (w.heap.size+1+1) (.cells #[.string ⟨#[]⟩,.string ⟨#[]⟩] 23)) ⟨BW,RWh⟩ ?_
 clear ro
 clear so
 clear rk
 clear sk
 clear hB sB
 rintro V4 ⟨hB,ro⟩
 have so:=RFz2 ro
 refine bodyPost_ret (v := .tuple #[.agg #[.string ⟨#[]⟩,.string ⟨#[]⟩],.int .i64 40]) ?res rfl ⟨rfl,hB⟩
 case res=>simp [results,Tryz.results110, go_sem,so]
theorem qsub_zero (w:World):Calls Tryz.prog 39 #[.agg #[.string ⟨#[]⟩,.string ⟨#[]⟩],.agg #[.string ⟨#[]⟩,.string ⟨#[]⟩]] w (fun e w'=>e = .returned (.tuple #[.agg #[.string ⟨#[]⟩,.string ⟨#[]⟩],.int .i64 40])∧Below w.heap.size w w'):=by
 have hB:Below w.heap.size w w:=Below.refl _ _
 have MS:=fun W=>wsum_bad 112 _ rfl W
 go_enter Tryz.func39, Tryz.ntmps39
 go_wp2_with fail
 have d0_o:w.heap.size≤w.heap.size+1+1:=by have:=hB.size;omega
 have sB:=hB.size
 refine world_cut (fun X=>Below w.heap.size w X∧Row X (w.heap.size+1+1) (.cells #[.string ⟨#[]⟩,.string ⟨#[]⟩] 23)) ⟨BW,RWh⟩ ?_
 clear hB sB
 rintro V1 ⟨hB,ro⟩
 have so:=RFz2 ro
 refine (MS _).mono ?_
 rintro e W2 ⟨rfl,h1⟩
 clear so
 replace hB:=hB.trans (h1.mono hB.size)
 replace ro:=Row.below ro h1
 clear h1
 have so:=RFz2 ro
 go_wp2_with fail
 have sB:=hB.size
 refine post_cut (fun X=>Below w.heap.size w X∧Row X (w.heap.size+1+1) (.cells #[.string ⟨#[]⟩,.string ⟨#[]⟩] 23)) ⟨BW,RWh⟩ ?_
 clear ro
 clear so
 clear hB sB
 rintro V3 ⟨hB,ro⟩
 have so:=RFz2 ro
 refine bodyPost_ret (v := .tuple #[.agg #[.string ⟨#[]⟩,.string ⟨#[]⟩],.int .i64 40]) ?res rfl ⟨rfl,hB⟩
 case res=>simp [results,Tryz.results39, go_sem,so]
end Go.Proofs.YtnokpldomlmamaaGreatDoor
namespace Go.Proofs.YtnokpldomlmamaaGreatDoor
open Go Go.RowKit Go.Lib Go.Shelf
theorem dat_free {r:Rat} {l:List Pt} (ho:Hist.Ok ⟨r,l⟩) (hf:Free ⟨r,l⟩) {t:Nat} (ht:t≤1000000) (p:Option Addr) (m c:Nat) (hm:l.length=m) (hpos:0<m) (w:World) (hp:PAt w p l) (he:Env w) :
  Calls Tryz.prog 11 #[.agg #[.string (S r.num),.string (S (r.den:Int)),.slice p m c],.int .i64 (t:Int)] w (fun e w'=>∃ o,Knows ⟨r,l⟩ t o∧e = .returned (.tuple #[.agg #[.string (S o.lo.num),.string (S (o.lo.den:Int)),.string (S o.hi.num),.string (S (o.hi.den:Int))],.int .i64 0])∧Below w.heap.size w w') :=
 (dat ho ht p m c hm hpos w hp he).mono fun e w' h=>by
  obtain ⟨⟨_,o,h1,h2⟩ | ⟨h1,_⟩,h3⟩:=h
  ·exact ⟨o,h1,h2,h3⟩
  ·exact absurd hf h1
theorem dat_bad {r:Rat} {l:List Pt} (ho:Hist.Ok ⟨r,l⟩) (hf:¬ Free ⟨r,l⟩) {t:Nat} (ht:t≤1000000) (p:Option Addr) (m c:Nat) (hm:l.length=m) (hpos:0<m) (w:World) (hp:PAt w p l) (he:Env w) :
  Calls Tryz.prog 11 #[.agg #[.string (S r.num),.string (S (r.den:Int)),.slice p m c],.int .i64 (t:Int)] w (AtErr w) :=
 (dat ho ht p m c hm hpos w hp he).mono fun e w' h=>by
  obtain ⟨⟨h1,_⟩ | ⟨_,h1⟩,h3⟩:=h
  ·exact absurd h1 hf
  ·exact ⟨h1,h3⟩
theorem iswide_ok {r wd:Rat} {l:List Pt} (ho:Hist.Ok ⟨r,l⟩) (hf:Free ⟨r,l⟩) {f n:Nat} (ht:f+n≤1000000) {o0:Iv} (hk:Knows ⟨r,l⟩ f o0) (hfu:∀ q,q ∈ l→q.t≤f) (hwd:QDig 200 wd) (p:Option Addr) (m c:Nat) (hm:l.length=m) (hpos:0<m) (bh bf bw:Nat) (w0 w:World) (hp:PAt w0 p l) (hB2:Below w0.heap.size w0 w) (he:Env w) (rh:Row w bh (.cells #[.string (S r.num),.string (S (r.den:Int)),.slice p m c] 26)) (rf:Row w bf (.cells #[.int .i64 (f:Int)] 3)) (rwd:Row w bw (.cells #[.string (S wd.num),.string (S (wd.den:Int))] 23)) :
  Calls Tryz.prog 57 #[.int .i64 (n:Int),.pointer (some ⟨bh,0,none⟩),.pointer (some ⟨bf,0,none⟩),.pointer (some ⟨bw,0,none⟩)] w (BoolOk (decide (0<cmpQ (o0.hi - o0.lo+far r (2 * n)) wd)) w):=by
 have hB:Below w.heap.size w w:=Below.refl _ _
 have MA:=fun W (hp:PAt W p l) (H:Env W)=>dat_free ho hf ht p m c hm hpos W hp H
 have HP:=Lib.hid hp
 have HB:=Lib.hid hB2
 have HO:=Lib.hid ho
 have HT:=Lib.hid ht
 have HK:=Lib.hid hk
 have HF:=Lib.hid hfu
 have HW:=Lib.hid hwd
 have hadd:IntKind.i64.wrap ((f:Int)+(n:Int))=((f+n:Nat):Int):=by rw [IntKind.wrap_i64];omega
 clear ht ho hf hm hpos hp hk hfu hB2 hwd
 have sh:=RF3 rh
 have sf:=RF1 rf
 have swd:=RF2 rwd
 go_enter Tryz.func57, Tryz.ntmps57
 go_wp2_with fail
 clear rh
 clear sh
 skip
 clear rf
 clear sf
 skip
 refine (MA _ (HP.out.below (HB.out.trans (hB.mono HB.out.size))) (he.below hB)).mono ?_
 rintro e W1 ⟨o,hKn,rfl,h1⟩
 clear swd
 replace hB:=hB.trans (h1.mono hB.size)
 replace rwd:=Row.below rwd h1
 clear h1
 have swd:=RF2 rwd
 have hwa:=width_after HF.out HK.out hKn
 have hdo:=hKn.dig HO.out.rdig (fun p hp=>(HO.out.ivs p hp).2) HT.out HO.out.times
 have MS:=fun W (H:Env W)=>qsub hdo.2 hdo.1 (by omega) W H
 have hds:=(hdo.2.sub hdo.1).mono (show 40+40+8+(40+40+8)+1≤200 by omega)
 rw [hwa] at MS hds
 have MC:=fun W (H:Env W)=>qcompare (o0.hi - o0.lo+far r (2 * n)) wd hds HW.out W H
 unfold QOk CmpOk Q at *
 generalize hgy:o0.hi - o0.lo+far r (2 * n)=yv at *
 generalize hgc:cmpQ yv wd=cv at *
 have HGY:=Lib.hid hgy
 have HGC:=Lib.hid hgc
 clear hgy hgc hwa hds hdo hKn
 go_wp2_with fail
 have sB:=hB.size
 refine world_cut (fun X=>Below w.heap.size w X∧Row X bw (.cells #[.string (S wd.num),.string (S (wd.den:Int))] 23)) ⟨BW,RWh⟩ ?_
 clear rwd
 clear swd
 clear hB sB
 rintro V2 ⟨hB,rwd⟩
 have swd:=RF2 rwd
 refine (MS _ (he.below hB)).mono ?_
 rintro e W3 ⟨rfl,h1⟩
 clear swd
 replace hB:=hB.trans (h1.mono hB.size)
 replace rwd:=Row.below rwd h1
 clear h1
 have swd:=RF2 rwd
 go_wp2_with fail
 skip
 have sB:=hB.size
 refine world_cut (fun X=>Below w.heap.size w X) BW ?_
 clear rwd
 clear swd
 clear hB sB
 rintro V4 hB
 refine (MC _ (he.below hB)).mono ?_
 rintro e W5 ⟨rfl,h1⟩
 replace hB:=hB.trans (h1.mono hB.size)
 clear h1
 go_wp2
 go_ret
 refine ⟨?_,hB⟩
 rw [← HGC.out,← HGY.out]
 rfl
theorem iswide_bad {f n:Nat} (ht:f+n≤1000000) (s1 s2 x1 x2:ByteArray) (p:Option Addr) (m c:Nat) (bh bf bw:Nat) (w:World) (HA:∀ W,Below w.heap.size w W→Calls Tryz.prog 11 #[.agg #[.string s1,.string s2,.slice p m c],.int .i64 ((f+n:Nat):Int)] W (AtErr W)) (rh:Row w bh (.cells #[.string s1,.string s2,.slice p m c] 26)) (rf:Row w bf (.cells #[.int .i64 (f:Int)] 3)) (rwd:Row w bw (.cells #[.string x1,.string x2] 23)) :
  Calls Tryz.prog 57 #[.int .i64 (n:Int),.pointer (some ⟨bh,0,none⟩),.pointer (some ⟨bf,0,none⟩),.pointer (some ⟨bw,0,none⟩)] w (BoolOk true w):=by
 have hB:Below w.heap.size w w:=Below.refl _ _
 have MA:=HA
 unfold AtErr at MA
 unfold BoolOk
 have MS:=fun W=>qsub_zero W
 have HT:=Lib.hid ht
 clear HA
 have hadd:IntKind.i64.wrap ((f:Int)+(n:Int))=((f+n:Nat):Int):=by rw [IntKind.wrap_i64];omega
 clear ht
 have sh:=RF3 rh
 have sf:=RF1 rf
 have swd:=RF2 rwd
 go_enter Tryz.func57, Tryz.ntmps57
 go_wp2_with fail
 clear rh
 clear sh
 skip
 clear rf
 clear sf
 skip
 refine (MA _ hB).mono ?_
 rintro e W1 ⟨rfl,h1⟩
 clear swd
 replace hB:=hB.trans (h1.mono hB.size)
 replace rwd:=Row.below rwd h1
 clear h1
 have swd:=RF2 rwd
 go_wp2_with fail
 have sB:=hB.size
 refine world_cut (fun X=>Below w.heap.size w X∧Row X bw (.cells #[.string x1,.string x2] 23)) ⟨BW,RWh⟩ ?_
 clear rwd
 clear swd
 clear hB sB
 rintro V2 ⟨hB,rwd⟩
 have swd:=RF2 rwd
 refine (MS _).mono ?_
 rintro e W3 ⟨rfl,h1⟩
 clear swd
 replace hB:=hB.trans (h1.mono hB.size)
 replace rwd:=Row.below rwd h1
 clear h1
 have swd:=RF2 rwd
 have sB:=hB.size
 go_wp2
 go_ret
 exact ⟨rfl,BW⟩
theorem until2 {i:Nat} (hi:i≤1000000) (b:Bool) (bu bh bf bw:Nat) (w:World) (hu:Row w bu (.cells #[.func (.func 57) #[] #[.pointer (some ⟨bh,0,none⟩),.pointer (some ⟨bf,0,none⟩),.pointer (some ⟨bw,0,none⟩)]] 95)) (hc:∀ W,Below w.heap.size w W→Calls Tryz.prog 57 #[.int .i64 ((i+1:Nat):Int),.pointer (some ⟨bh,0,none⟩),.pointer (some ⟨bf,0,none⟩),.pointer (some ⟨bw,0,none⟩)] W (BoolOk b W)) :
  Calls Tryz.prog 60 #[.int .i64 (i:Int),.pointer (some ⟨bu,0,none⟩)] w (BoolOk b w):=by
 have hB:Below w.heap.size w w:=Below.refl _ _
 have MW:=hc
 unfold BoolOk at MW ⊢
 have hadd:IntKind.i64.wrap ((i:Int)+1)=((i+1:Nat):Int):=by rw [IntKind.wrap_i64];omega
 clear hc hi
 have ru:=hu
 have su:=RF1 ru
 go_enter Tryz.func60, Tryz.ntmps60
 go_wp2_with fail
 clear ru
 clear su
 skip
 refine (MW _ hB).mono ?_
 rintro e W1 ⟨rfl,h1⟩
 replace hB:=hB.trans (h1.mono hB.size)
 clear h1
 go_wp2
 go_ret
 exact ⟨rfl,hB⟩
theorem duntil_inv {t:Int} (a1 a2 s1 s2 x1 x2:ByteArray) (p0:Option Addr) (m0 c0 k:Nat) (xs:List Value) (w:World) (KV:∀ W,Below w.heap.size w W→Calls Tryz.prog 16 #[.agg #[.string a1,.string a2,.slice p0 m0 c0],.int .i64 t] W fun e w'=>∃ p c,w'.ownsRow W.heap.size 32 5 (.slice p k c) k xs∧e = .returned (.agg #[.string s1,.string s2,.slice p k c])∧Below W.heap.size W w') (HV:∀ W,Below w.heap.size w W→Calls Tryz.prog 58 #[.agg #[.string x1,.string x2]] W (BoolOk false W)):Calls Tryz.prog 13 #[.agg #[.string a1,.string a2,.slice p0 m0 c0],.int .i64 t,.agg #[.string x1,.string x2]] w fun e w'=>e = .returned (.tuple #[.int .i64 0,.bool false])∧Below w.heap.size w w':=by
 have hB:Below w.heap.size w w:=Below.refl _ _
 have MK:=KV
 have MV:=HV
 unfold BoolOk at MV
 clear KV HV
 go_enter Tryz.func13, Tryz.ntmps13
 go_wp2_with fail
 have d0_h:w.heap.size≤w.heap.size:=by have:=hB.size;omega
 have sB:=hB.size
 refine world_cut (fun X=>Below w.heap.size w X∧Row X w.heap.size (.cells #[.string a1,.string a2,.slice p0 m0 c0] 26)∧Row X (w.heap.size+1) (.cells #[.int .i64 t] 3)∧Row X (w.heap.size+1+1) (.cells #[.string x1,.string x2] 23)) ⟨BW,RWh,RWh,RWh⟩ ?_
 clear hB sB
 rintro V1 ⟨hB,rh,rf,rwd⟩
 have sh:=RFz3 rh
 have sf:=RF1 rf
 have swd:=RF2 rwd
 have hk0:=rwd.1
 refine (MK _ hB).mono ?_
 rintro e W2 ⟨p,c,hown,rfl,h1⟩
 clear sh
 clear sf
 clear swd
 replace hB:=hB.trans (h1.mono hB.size)
 replace rh:=Row.below rh h1
 replace rf:=Row.below rf h1
 replace rwd:=Row.below rwd h1
 clear h1
 have sh:=RFz3 rh
 have sf:=RF1 rf
 have swd:=RF2 rwd
 go_wp2_with fail
 have dh_u:w.heap.size<W2.heap.size:=by omega
 have sB:=hB.size
 refine world_cut (fun X=>Below w.heap.size w X∧Row X w.heap.size (.cells #[.string s1,.string s2,.slice p k c] 26)∧Row X (w.heap.size+1) (.cells #[.int .i64 t] 3)∧Row X (w.heap.size+1+1) (.cells #[.string x1,.string x2] 23)∧Row X W2.heap.size (.cells #[.func (.func 57) #[] #[.pointer (some ⟨w.heap.size,0,none⟩),.pointer (some ⟨w.heap.size+1,0,none⟩),.pointer (some ⟨w.heap.size+1+1,0,none⟩)]] 95)∧X.ownsRow V1.heap.size 32 5 (.slice p k c) k xs) ⟨BW,RWh,RWh,RWh,RWh,OW⟩ ?_
 clear rh
 clear sh
 clear rf
 clear sf
 clear rwd
 clear swd
 clear hB sB hown
 rintro V3 ⟨hB,rh,rf,rwd,ru,hown⟩
 skip
 have sh:=RFz3 rh
 have sf:=RF1 rf
 have swd:=RF2 rwd
 have su:=RF1 ru
 refine (MV _ hB).mono ?_
 rintro e W4 ⟨rfl,h1⟩
 clear sh
 clear sf
 clear swd
 clear su
 replace hB:=hB.trans (h1.mono hB.size)
 replace rh:=Row.below rh h1
 replace rf:=Row.below rf h1
 replace rwd:=Row.below rwd h1
 replace ru:=Row.below ru h1
 replace hown:=own_later hown h1
 clear h1
 have sh:=RFz3 rh
 have sf:=RF1 rf
 have swd:=RF2 rwd
 have su:=RF1 ru
 go_wp2
 refine bodyPost_ret (v := .tuple #[.int .i64 0,.bool false]) ?res rfl ⟨rfl,hB⟩
 case res=>simp [results,Tryz.results13, go_sem]
theorem duntil_low {t:Int} (ht:t<0) (a1 a2 s1 s2 x1 x2:ByteArray) (p0:Option Addr) (m0 c0 k:Nat) (xs:List Value) (w:World) (KV:∀ W,Below w.heap.size w W→Calls Tryz.prog 16 #[.agg #[.string a1,.string a2,.slice p0 m0 c0],.int .i64 t] W fun e w'=>∃ p c,w'.ownsRow W.heap.size 32 5 (.slice p k c) k xs∧e = .returned (.agg #[.string s1,.string s2,.slice p k c])∧Below W.heap.size W w') (HV:∀ W,Below w.heap.size w W→Calls Tryz.prog 58 #[.agg #[.string x1,.string x2]] W (BoolOk true W)):Calls Tryz.prog 13 #[.agg #[.string a1,.string a2,.slice p0 m0 c0],.int .i64 t,.agg #[.string x1,.string x2]] w fun e w'=>e = .returned (.tuple #[.int .i64 0,.bool false])∧Below w.heap.size w w':=by
 have hB:Below w.heap.size w w:=Below.refl _ _
 have MK:=KV
 have MV:=HV
 unfold BoolOk at MV
 clear KV HV
 have ht0:decide (t<0)=true:=decide_eq_true ht
 clear ht
 go_enter Tryz.func13, Tryz.ntmps13
 go_wp2_with fail
 have d0_h:w.heap.size≤w.heap.size:=by have:=hB.size;omega
 have sB:=hB.size
 refine world_cut (fun X=>Below w.heap.size w X∧Row X w.heap.size (.cells #[.string a1,.string a2,.slice p0 m0 c0] 26)∧Row X (w.heap.size+1) (.cells #[.int .i64 t] 3)∧Row X (w.heap.size+1+1) (.cells #[.string x1,.string x2] 23)) ⟨BW,RWh,RWh,RWh⟩ ?_
 clear hB sB
 rintro V1 ⟨hB,rh,rf,rwd⟩
 have sh:=RFz3 rh
 have sf:=RF1 rf
 have swd:=RF2 rwd
 have hk0:=rwd.1
 refine (MK _ hB).mono ?_
 rintro e W2 ⟨p,c,hown,rfl,h1⟩
 clear sh
 clear sf
 clear swd
 replace hB:=hB.trans (h1.mono hB.size)
 replace rh:=Row.below rh h1
 replace rf:=Row.below rf h1
 replace rwd:=Row.below rwd h1
 clear h1
 have sh:=RFz3 rh
 have sf:=RF1 rf
 have swd:=RF2 rwd
 go_wp2_with fail
 have dh_u:w.heap.size<W2.heap.size:=by omega
 have sB:=hB.size
 refine world_cut (fun X=>Below w.heap.size w X∧Row X w.heap.size (.cells #[.string s1,.string s2,.slice p k c] 26)∧Row X (w.heap.size+1) (.cells #[.int .i64 t] 3)∧Row X (w.heap.size+1+1) (.cells #[.string x1,.string x2] 23)∧Row X W2.heap.size (.cells #[.func (.func 57) #[] #[.pointer (some ⟨w.heap.size,0,none⟩),.pointer (some ⟨w.heap.size+1,0,none⟩),.pointer (some ⟨w.heap.size+1+1,0,none⟩)]] 95)∧X.ownsRow V1.heap.size 32 5 (.slice p k c) k xs) ⟨BW,RWh,RWh,RWh,RWh,OW⟩ ?_
 clear rh
 clear sh
 clear rf
 clear sf
 clear rwd
 clear swd
 clear hB sB hown
 rintro V3 ⟨hB,rh,rf,rwd,ru,hown⟩
 skip
 have sh:=RFz3 rh
 have sf:=RF1 rf
 have swd:=RF2 rwd
 have su:=RF1 ru
 refine (MV _ hB).mono ?_
 rintro e W4 ⟨rfl,h1⟩
 clear sh
 clear sf
 clear swd
 clear su
 replace hB:=hB.trans (h1.mono hB.size)
 replace rh:=Row.below rh h1
 replace rf:=Row.below rf h1
 replace rwd:=Row.below rwd h1
 replace ru:=Row.below ru h1
 replace hown:=own_later hown h1
 clear h1
 have sh:=RFz3 rh
 have sf:=RF1 rf
 have swd:=RF2 rwd
 have su:=RF1 ru
 go_wp2
 refine bodyPost_ret (v := .tuple #[.int .i64 0,.bool false]) ?res rfl ⟨rfl,hB⟩
 case res=>simp [results,Tryz.results13, go_sem]
theorem duntil_high {t:Int} (ht:1000000<t) (a1 a2 s1 s2 x1 x2:ByteArray) (p0:Option Addr) (m0 c0 k:Nat) (xs:List Value) (w:World) (KV:∀ W,Below w.heap.size w W→Calls Tryz.prog 16 #[.agg #[.string a1,.string a2,.slice p0 m0 c0],.int .i64 t] W fun e w'=>∃ p c,w'.ownsRow W.heap.size 32 5 (.slice p k c) k xs∧e = .returned (.agg #[.string s1,.string s2,.slice p k c])∧Below W.heap.size W w') (HV:∀ W,Below w.heap.size w W→Calls Tryz.prog 58 #[.agg #[.string x1,.string x2]] W (BoolOk true W)):Calls Tryz.prog 13 #[.agg #[.string a1,.string a2,.slice p0 m0 c0],.int .i64 t,.agg #[.string x1,.string x2]] w fun e w'=>e = .returned (.tuple #[.int .i64 0,.bool false])∧Below w.heap.size w w':=by
 have hB:Below w.heap.size w w:=Below.refl _ _
 have MK:=KV
 have MV:=HV
 unfold BoolOk at MV
 clear KV HV
 have ht0:decide (t<0)=false:=decide_eq_false (by omega)
 have ht1:decide (1000000<t)=true:=decide_eq_true ht
 clear ht
 go_enter Tryz.func13, Tryz.ntmps13
 go_wp2_with fail
 have d0_h:w.heap.size≤w.heap.size:=by have:=hB.size;omega
 have sB:=hB.size
 refine world_cut (fun X=>Below w.heap.size w X∧Row X w.heap.size (.cells #[.string a1,.string a2,.slice p0 m0 c0] 26)∧Row X (w.heap.size+1) (.cells #[.int .i64 t] 3)∧Row X (w.heap.size+1+1) (.cells #[.string x1,.string x2] 23)) ⟨BW,RWh,RWh,RWh⟩ ?_
 clear hB sB
 rintro V1 ⟨hB,rh,rf,rwd⟩
 have sh:=RFz3 rh
 have sf:=RF1 rf
 have swd:=RF2 rwd
 have hk0:=rwd.1
 refine (MK _ hB).mono ?_
 rintro e W2 ⟨p,c,hown,rfl,h1⟩
 clear sh
 clear sf
 clear swd
 replace hB:=hB.trans (h1.mono hB.size)
 replace rh:=Row.below rh h1
 replace rf:=Row.below rf h1
 replace rwd:=Row.below rwd h1
 clear h1
 have sh:=RFz3 rh
 have sf:=RF1 rf
 have swd:=RF2 rwd
 go_wp2_with fail
 have dh_u:w.heap.size<W2.heap.size:=by omega
 have sB:=hB.size
 refine world_cut (fun X=>Below w.heap.size w X∧Row X w.heap.size (.cells #[.string s1,.string s2,.slice p k c] 26)∧Row X (w.heap.size+1) (.cells #[.int .i64 t] 3)∧Row X (w.heap.size+1+1) (.cells #[.string x1,.string x2] 23)∧Row X W2.heap.size (.cells #[.func (.func 57) #[] #[.pointer (some ⟨w.heap.size,0,none⟩),.pointer (some ⟨w.heap.size+1,0,none⟩),.pointer (some ⟨w.heap.size+1+1,0,none⟩)]] 95)∧X.ownsRow V1.heap.size 32 5 (.slice p k c) k xs) ⟨BW,RWh,RWh,RWh,RWh,OW⟩ ?_
 clear rh
 clear sh
 clear rf
 clear sf
 clear rwd
 clear swd
 clear hB sB hown
 rintro V3 ⟨hB,rh,rf,rwd,ru,hown⟩
 skip
 have sh:=RFz3 rh
 have sf:=RF1 rf
 have swd:=RF2 rwd
 have su:=RF1 ru
 refine (MV _ hB).mono ?_
 rintro e W4 ⟨rfl,h1⟩
 clear sh
 clear sf
 clear swd
 clear su
 replace hB:=hB.trans (h1.mono hB.size)
 replace rh:=Row.below rh h1
 replace rf:=Row.below rf h1
 replace rwd:=Row.below rwd h1
 replace ru:=Row.below ru h1
 replace hown:=own_later hown h1
 clear h1
 have sh:=RFz3 rh
 have sf:=RF1 rf
 have swd:=RF2 rwd
 have su:=RF1 ru
 go_wp2
 refine bodyPost_ret (v := .tuple #[.int .i64 0,.bool false]) ?res rfl ⟨rfl,hB⟩
 case res=>simp [results,Tryz.results13, go_sem]
theorem duntil_wide {f:Nat} (hf:f≤1000000) (a1 a2 s1 s2 x1 x2:ByteArray) (p0:Option Addr) (m0 c0 k:Nat) (xs:List Value) (w:World) (KV:∀ W,Below w.heap.size w W→Calls Tryz.prog 16 #[.agg #[.string a1,.string a2,.slice p0 m0 c0],.int .i64 (f:Int)] W fun e w'=>∃ p c,w'.ownsRow W.heap.size 32 5 (.slice p k c) k xs∧e = .returned (.agg #[.string s1,.string s2,.slice p k c])∧Below W.heap.size W w') (HV:∀ W,Below w.heap.size w W→Calls Tryz.prog 58 #[.agg #[.string x1,.string x2]] W (BoolOk true W)) (HI:∀ p c bh bf bw n W,W.ownsRow n 32 5 (.slice p k c) k xs→Row W bh (.cells #[.string s1,.string s2,.slice p k c] 26)→Row W bf (.cells #[.int .i64 (f:Int)] 3)→Row W bw (.cells #[.string x1,.string x2] 23)→Below w.heap.size w W→Calls Tryz.prog 57 #[.int .i64 0,.pointer (some ⟨bh,0,none⟩),.pointer (some ⟨bf,0,none⟩),.pointer (some ⟨bw,0,none⟩)] W (BoolOk true W)):Calls Tryz.prog 13 #[.agg #[.string a1,.string a2,.slice p0 m0 c0],.int .i64 (f:Int),.agg #[.string x1,.string x2]] w fun e w'=>e = .returned (.tuple #[.int .i64 0,.bool false])∧Below w.heap.size w w':=by
 have hB:Below w.heap.size w w:=Below.refl _ _
 have MK:=KV
 have MV:=HV
 unfold BoolOk at MV
 clear KV HV
 have MW:=fun p c bh bf bw n W ho rh rf rw hB=>HI p c bh bf bw n W ho rh rf rw hB
 unfold BoolOk at MW
 clear HI
 have ht0:decide ((f:Int)<0)=false:=decide_eq_false (by omega)
 have ht1:decide (1000000<(f:Int))=false:=decide_eq_false (by omega)
 go_enter Tryz.func13, Tryz.ntmps13
 go_wp2_with fail
 have d0_h:w.heap.size≤w.heap.size:=by have:=hB.size;omega
 have sB:=hB.size
 refine world_cut (fun X=>Below w.heap.size w X∧Row X w.heap.size (.cells #[.string a1,.string a2,.slice p0 m0 c0] 26)∧Row X (w.heap.size+1) (.cells #[.int .i64 (f:Int)] 3)∧Row X (w.heap.size+1+1) (.cells #[.string x1,.string x2] 23)) ⟨BW,RWh,RWh,RWh⟩ ?_
 clear hB sB
 rintro V1 ⟨hB,rh,rf,rwd⟩
 have sh:=RFz3 rh
 have sf:=RF1 rf
 have swd:=RF2 rwd
 have hk0:=rwd.1
 refine (MK _ hB).mono ?_
 rintro e W2 ⟨p,c,hown,rfl,h1⟩
 clear sh
 clear sf
 clear swd
 replace hB:=hB.trans (h1.mono hB.size)
 replace rh:=Row.below rh h1
 replace rf:=Row.below rf h1
 replace rwd:=Row.below rwd h1
 clear h1
 have sh:=RFz3 rh
 have sf:=RF1 rf
 have swd:=RF2 rwd
 go_wp2_with fail
 have dh_u:w.heap.size<W2.heap.size:=by omega
 have sB:=hB.size
 refine world_cut (fun X=>Below w.heap.size w X∧Row X w.heap.size (.cells #[.string s1,.string s2,.slice p k c] 26)∧Row X (w.heap.size+1) (.cells #[.int .i64 (f:Int)] 3)∧Row X (w.heap.size+1+1) (.cells #[.string x1,.string x2] 23)∧Row X W2.heap.size (.cells #[.func (.func 57) #[] #[.pointer (some ⟨w.heap.size,0,none⟩),.pointer (some ⟨w.heap.size+1,0,none⟩),.pointer (some ⟨w.heap.size+1+1,0,none⟩)]] 95)∧X.ownsRow V1.heap.size 32 5 (.slice p k c) k xs) ⟨BW,RWh,RWh,RWh,RWh,OW⟩ ?_
 clear rh
 clear sh
 clear rf
 clear sf
 clear rwd
 clear swd
 clear hB sB hown
 rintro V3 ⟨hB,rh,rf,rwd,ru,hown⟩
 skip
 have sh:=RFz3 rh
 have sf:=RF1 rf
 have swd:=RF2 rwd
 have su:=RF1 ru
 refine (MV _ hB).mono ?_
 rintro e W4 ⟨rfl,h1⟩
 clear sh
 clear sf
 clear swd
 clear su
 replace hB:=hB.trans (h1.mono hB.size)
 replace rh:=Row.below rh h1
 replace rf:=Row.below rf h1
 replace rwd:=Row.below rwd h1
 replace ru:=Row.below ru h1
 replace hown:=own_later hown h1
 clear h1
 have sh:=RFz3 rh
 have sf:=RF1 rf
 have swd:=RF2 rwd
 have su:=RF1 ru
 go_wp2_with fail
 refine (MW p c _ _ _ _ _ hown rh rf rwd hB).mono ?_
 rintro e W5 ⟨rfl,h1⟩
 clear sh
 clear sf
 clear swd
 clear su
 replace hB:=hB.trans (h1.mono hB.size)
 replace rh:=Row.below rh h1
 replace rf:=Row.below rf h1
 replace rwd:=Row.below rwd h1
 replace ru:=Row.below ru h1
 replace hown:=own_later hown h1
 clear h1
 have sh:=RFz3 rh
 have sf:=RF1 rf
 have swd:=RF2 rwd
 have su:=RF1 ru
 go_wp2
 refine bodyPost_ret (v := .tuple #[.int .i64 0,.bool false]) ?res rfl ⟨rfl,hB⟩
 case res=>simp [results,Tryz.results13, go_sem]
theorem duntil_last {f:Nat} (hf:f≤1000000) (pr:Nat→Bool) (h0:pr 0=false) (hmono:∀ a b,a≤b→b<1000000 - f→pr (a+1)=true→pr (b+1)=true) (a1 a2 s1 s2 x1 x2:ByteArray) (p0:Option Addr) (m0 c0 k:Nat) (xs:List Value) (w:World) (KV:∀ W,Below w.heap.size w W→Calls Tryz.prog 16 #[.agg #[.string a1,.string a2,.slice p0 m0 c0],.int .i64 (f:Int)] W fun e w'=>∃ p c,w'.ownsRow W.heap.size 32 5 (.slice p k c) k xs∧e = .returned (.agg #[.string s1,.string s2,.slice p k c])∧Below W.heap.size W w') (HV:∀ W,Below w.heap.size w W→Calls Tryz.prog 58 #[.agg #[.string x1,.string x2]] W (BoolOk true W)) (HI:∀ p c bh bf bw n i W,f+i≤1000000→W.ownsRow n 32 5 (.slice p k c) k xs→Row W bh (.cells #[.string s1,.string s2,.slice p k c] 26)→Row W bf (.cells #[.int .i64 (f:Int)] 3)→Row W bw (.cells #[.string x1,.string x2] 23)→Below w.heap.size w W→Calls Tryz.prog 57 #[.int .i64 (i:Int),.pointer (some ⟨bh,0,none⟩),.pointer (some ⟨bf,0,none⟩),.pointer (some ⟨bw,0,none⟩)] W (BoolOk (pr i) W)):Calls Tryz.prog 13 #[.agg #[.string a1,.string a2,.slice p0 m0 c0],.int .i64 (f:Int),.agg #[.string x1,.string x2]] w fun e w'=>∃ N:Nat,N≤1000000 - f∧(∀ t,t<N→pr (t+1)=false)∧(∀ t,N≤t→t<1000000 - f→pr (t+1)=true)∧e = .returned (.tuple #[.int .i64 ((f:Int)+(N:Int)),.bool true])∧Below w.heap.size w w':=by
 have hB:Below w.heap.size w w:=Below.refl _ _
 have MK:=KV
 have MV:=HV
 unfold BoolOk at MV
 clear KV HV
 have MW:=fun p c bh bf bw n W ho rh rf rw hB=>HI p c bh bf bw n 0 W (by omega) ho rh rf rw hB
 rw [h0] at MW
 unfold BoolOk at MW
 have HI2:=Lib.hid HI
 clear HI h0
 have ht0:decide ((f:Int)<0)=false:=decide_eq_false (by omega)
 have ht1:decide (1000000<(f:Int))=false:=decide_eq_false (by omega)
 have hsub:IntKind.i64.wrap (1000000 - (f:Int))=((1000000 - f:Nat):Int):=by rw [IntKind.wrap_i64];omega
 go_enter Tryz.func13, Tryz.ntmps13
 go_wp2_with fail
 have d0_h:w.heap.size≤w.heap.size:=by have:=hB.size;omega
 have sB:=hB.size
 refine world_cut (fun X=>Below w.heap.size w X∧Row X w.heap.size (.cells #[.string a1,.string a2,.slice p0 m0 c0] 26)∧Row X (w.heap.size+1) (.cells #[.int .i64 (f:Int)] 3)∧Row X (w.heap.size+1+1) (.cells #[.string x1,.string x2] 23)) ⟨BW,RWh,RWh,RWh⟩ ?_
 clear hB sB
 rintro V1 ⟨hB,rh,rf,rwd⟩
 have sh:=RFz3 rh
 have sf:=RF1 rf
 have swd:=RF2 rwd
 have hk0:=rwd.1
 refine (MK _ hB).mono ?_
 rintro e W2 ⟨p,c,hown,rfl,h1⟩
 clear sh
 clear sf
 clear swd
 replace hB:=hB.trans (h1.mono hB.size)
 replace rh:=Row.below rh h1
 replace rf:=Row.below rf h1
 replace rwd:=Row.below rwd h1
 clear h1
 have sh:=RFz3 rh
 have sf:=RF1 rf
 have swd:=RF2 rwd
 go_wp2_with fail
 have dh_u:w.heap.size<W2.heap.size:=by omega
 have sB:=hB.size
 refine world_cut (fun X=>Below w.heap.size w X∧Row X w.heap.size (.cells #[.string s1,.string s2,.slice p k c] 26)∧Row X (w.heap.size+1) (.cells #[.int .i64 (f:Int)] 3)∧Row X (w.heap.size+1+1) (.cells #[.string x1,.string x2] 23)∧Row X W2.heap.size (.cells #[.func (.func 57) #[] #[.pointer (some ⟨w.heap.size,0,none⟩),.pointer (some ⟨w.heap.size+1,0,none⟩),.pointer (some ⟨w.heap.size+1+1,0,none⟩)]] 95)∧X.ownsRow V1.heap.size 32 5 (.slice p k c) k xs) ⟨BW,RWh,RWh,RWh,RWh,OW⟩ ?_
 clear rh
 clear sh
 clear rf
 clear sf
 clear rwd
 clear swd
 clear hB sB hown
 rintro V3 ⟨hB,rh,rf,rwd,ru,hown⟩
 skip
 have sh:=RFz3 rh
 have sf:=RF1 rf
 have swd:=RF2 rwd
 have su:=RF1 ru
 refine (MV _ hB).mono ?_
 rintro e W4 ⟨rfl,h1⟩
 clear sh
 clear sf
 clear swd
 clear su
 replace hB:=hB.trans (h1.mono hB.size)
 replace rh:=Row.below rh h1
 replace rf:=Row.below rf h1
 replace rwd:=Row.below rwd h1
 replace ru:=Row.below ru h1
 replace hown:=own_later hown h1
 clear h1
 have sh:=RFz3 rh
 have sf:=RF1 rf
 have swd:=RF2 rwd
 have su:=RF1 ru
 go_wp2_with fail
 refine (MW p c _ _ _ _ _ hown rh rf rwd hB).mono ?_
 rintro e W5 ⟨rfl,h1⟩
 clear sh
 clear sf
 clear swd
 clear su
 replace hB:=hB.trans (h1.mono hB.size)
 replace rh:=Row.below rh h1
 replace rf:=Row.below rf h1
 replace rwd:=Row.below rwd h1
 replace ru:=Row.below ru h1
 replace hown:=own_later hown h1
 clear h1
 have sh:=RFz3 rh
 have sf:=RF1 rf
 have swd:=RF2 rwd
 have su:=RF1 ru
 have HO:=Lib.hid hown
 obtain ⟨V5,hV5⟩:∃ x:World,x=W5:=⟨_,rfl⟩
 subst hV5
 have eg:∀ args w,(callFunc 60 args).run Tryz.prog w = .ok (.enter 60 args) w:=enters_of Tryz.func60 (by kernel_rfl) rfl
 have MS:=search_any (1000000 - f) 60 #[.pointer (some ⟨W2.heap.size,0,none⟩)] (fun i=>pr (i+1)) V5 eg (by omega) (fun W i hi hW=>until2 (by omega) (pr (i+1)) _ (w.heap.size) (w.heap.size+1) (w.heap.size+1+1) W (Row.below ru hW) (fun X hX=>HI2.out p c _ _ _ _ (i+1) X (by omega) (own_later (own_later HO.out hW) hX) (Row.below (Row.below rh hW) hX) (Row.below (Row.below rf hW) hX) (Row.below (Row.below rwd hW) hX) (hB.trans ((hW.trans (hX.mono hW.size)).mono hB.size)))) hmono
 clear hmono MW
 go_wp2_with fail
 refine (MS).mono ?_
 rintro e W6 ⟨⟨N,rfl,hN,hlo,hhi⟩,h1⟩
 clear sh
 clear sf
 clear swd
 clear su
 replace hB:=hB.trans (h1.mono hB.size)
 replace rh:=Row.below rh h1
 replace rf:=Row.below rf h1
 replace rwd:=Row.below rwd h1
 replace ru:=Row.below ru h1
 replace hown:=own_later hown h1
 clear h1
 have sh:=RFz3 rh
 have sf:=RF1 rf
 have swd:=RF2 rwd
 have su:=RF1 ru
 have HR:=Lib.hid (And.intro hN (And.intro hlo hhi))
 have hadd:IntKind.i64.wrap ((f:Int)+(N:Int))=(f:Int)+(N:Int):=by rw [IntKind.wrap_i64];omega
 clear hlo hhi hN
 go_wp2
 refine bodyPost_ret (v := .tuple #[.int .i64 ((f:Int)+(N:Int)),.bool true]) ?res rfl ⟨N,HR.out.1,HR.out.2.1,HR.out.2.2,rfl,hB⟩
 case res=>simp [results,Tryz.results13, go_sem]
end Go.Proofs.YtnokpldomlmamaaGreatDoor
