/-
 The reference of drift: short fractions, valid histories.
-/
import Derived.Test.YtnokpldomlmamaaGreatDoorOTail2
import Derived.Test.YtnokpldomlmamaaGreatDoorOTail4
set_option linter.unusedSimpArgs false
set_option linter.unusedVariables false
set_option maxRecDepth 100000
set_option maxHeartbeats 16000000
namespace Go.Proofs.YtnokpldomlmamaaGreatDoor
open Go Go.RowKit Go.Lib Go.Shelf
theorem S_len (z:Int):(S z).size=(if z<0 then 1 else 0)+(decDigits z.natAbs).length:=by
 have h1:(S z).size=(itoa z).length:=by unfold S ByteArray.size;simp
 rw [h1]
 rcases Int.lt_or_le z 0 with h | h
 ·obtain ⟨u,rfl⟩:∃ u:Nat,z = -(u:Int):=⟨z.natAbs,by omega⟩
  rw [itoa_ng u (by omega),if_pos h];simp;omega
 ·obtain ⟨u,rfl⟩:∃ u:Nat,z=(u:Int):=⟨z.natAbs,by omega⟩
  rw [itoa_nn,if_neg (by omega)];simp
theorem S_first (z:Int):0<(S z).size∧∃ d:Nat,(∀ W,(Instr.index 9 (.string (S z)) (.int .i64 0)).run Tryz.prog W = .ok (.int .u8 (d:Int)) W)∧(d=45 ↔ z<0):=by
 have hl:(S z).data.toList=itoa z:=is_S z
 have hs:0<(S z).size:=by
  rw [S_len]
  have:=dec_len_pos z.natAbs
  omega
 refine ⟨hs,((S z)[0]'hs).toNat,fun W => ?_,?_⟩
 ·rw [run_index_string W 9 (S z) .i64 0 Tryz.underlying9, dif_pos ⟨by omega,by omega⟩]
  rfl
 ·rw [← itoa_head z,← hl]
  have e:(S z).data.toList.head? = some ((S z)[0]'hs):=by
   rw [List.head?_eq_getElem?,Array.getElem?_toList]
   exact Array.getElem?_eq_getElem hs
  rw [e]
  simp only [Option.some.injEq]
  constructor
  ·intro h;exact UInt8.toNat_inj.1 h
  ·intro h;rw [h];rfl
theorem r12zero (w:World):Calls Tryz.prog 70 #[] w (fun e w'=>e = .returned (.agg #[.string ⟨#[48]⟩,.string ⟨#[49]⟩])∧Below w.heap.size w w'):=by
 have hB:Below w.heap.size w w:=Below.refl _ _
 go_enter Tryz.func70, Tryz.ntmps70
 go_wp2_with fail
 have sB:=hB.size
 refine post_cut (fun X=>Below w.heap.size w X∧Row X w.heap.size (.cells #[.string ⟨#[48]⟩,.string ⟨#[49]⟩] 23)) ⟨BW,RWh⟩ ?_
 clear hB sB
 rintro V1 ⟨hB,ro⟩
 have so:=RFz2 ro
 refine bodyPost_ret (v := .agg #[.string ⟨#[48]⟩,.string ⟨#[49]⟩]) ?res rfl ⟨rfl,hB⟩
 case res=>simp [results,Tryz.results70, go_sem,so]
theorem r12short_neg {q:Rat} (hq:QDig 40 q) (hz:q.num<0) (w:World):Calls Tryz.prog 69 #[Q q] w (fun e w'=>e = .returned (.tuple #[.bool true,.bool true])∧Below w.heap.size w w'):=by
 have hB:Below w.heap.size w w:=Below.refl _ _
 have MV:=fun W=>rqvalid q (hq.mono (by omega)) W
 unfold BoolOk Q at MV
 unfold Q
 have b2:=den_size hq.2
 have bl:=S_len q.num
 have bd:=(dec_lt q.num.natAbs 40 (by decide)).2 hq.1
 obtain ⟨hs0,d,hidx,hd⟩:=S_first q.num
 rw [if_pos hz] at bl
 obtain rfl:d=45:=hd.2 hz
 generalize S q.num=sn at *
 generalize S (q.den:Int)=sd at *
 clear hq hd hz
 have hz1:(0:Int)<(sn.size:Int):=by omega
 have hle2:(sd.size:Int)≤40:=by omega
 have hw:IntKind.i64.wrap ((sn.size:Int) - 1)=(sn.size:Int) - 1:=by rw [IntKind.wrap_i64];omega
 have hle1:(sn.size:Int) - 1≤40:=by omega
 clear bl bd b2 hs0
 go_enter Tryz.func69, Tryz.ntmps69
 go_wp2_with fail
 have sB:=hB.size
 refine world_cut (fun X=>Below w.heap.size w X∧Row X w.heap.size (.cells #[.string sn,.string sd] 23)) ⟨BW,RWh⟩ ?_
 clear hB sB
 rintro V1 ⟨hB,rr⟩
 have sr:=RF2 rr
 refine (MV _).mono ?_
 rintro e W2 ⟨rfl,h1⟩
 clear sr
 replace hB:=hB.trans (h1.mono hB.size)
 replace rr:=Row.below rr h1
 clear h1
 have sr:=RF2 rr
 go_upto_region 3 with fail
 go_wp2
 refine bodyPost_ret (v := .tuple #[.bool true,.bool true]) ?res rfl ⟨rfl,hB⟩
 case res=>simp [results,Tryz.results69, go_sem]
theorem r12short_pos {q:Rat} (hq:QDig 40 q) (hz:¬ q.num<0) (w:World):Calls Tryz.prog 69 #[Q q] w (fun e w'=>e = .returned (.tuple #[.bool true,.bool true])∧Below w.heap.size w w'):=by
 have hB:Below w.heap.size w w:=Below.refl _ _
 have MV:=fun W=>rqvalid q (hq.mono (by omega)) W
 unfold BoolOk Q at MV
 unfold Q
 have b2:=den_size hq.2
 have bl:=S_len q.num
 have bd:=(dec_lt q.num.natAbs 40 (by decide)).2 hq.1
 obtain ⟨hs0,d,hidx,hd⟩:=S_first q.num
 rw [if_neg hz] at bl
 have hd2:¬ (d=45):=fun h=>hz (hd.1 h)
 have hd3:((d:Int) == 45)=false:=by rw [beq_eq_false_iff_ne];omega
 generalize S q.num=sn at *
 generalize S (q.den:Int)=sd at *
 clear hq hd hz
 have hz1:(0:Int)<(sn.size:Int):=by omega
 have hle2:(sd.size:Int)≤40:=by omega
 have hle1:(sn.size:Int)≤40:=by omega
 clear bl bd b2 hs0
 go_enter Tryz.func69, Tryz.ntmps69
 go_wp2_with fail
 have sB:=hB.size
 refine world_cut (fun X=>Below w.heap.size w X∧Row X w.heap.size (.cells #[.string sn,.string sd] 23)) ⟨BW,RWh⟩ ?_
 clear hB sB
 rintro V1 ⟨hB,rr⟩
 have sr:=RF2 rr
 refine (MV _).mono ?_
 rintro e W2 ⟨rfl,h1⟩
 clear sr
 replace hB:=hB.trans (h1.mono hB.size)
 replace rr:=Row.below rr h1
 clear h1
 have sr:=RF2 rr
 go_upto_region 3 with fail
 go_wp2
 refine bodyPost_ret (v := .tuple #[.bool true,.bool true]) ?res rfl ⟨rfl,hB⟩
 case res=>simp [results,Tryz.results69, go_sem]
theorem r12short {q:Rat} (hq:QDig 40 q) (w:World):Calls Tryz.prog 69 #[Q q] w (fun e w'=>e = .returned (.tuple #[.bool true,.bool true])∧Below w.heap.size w w'):=by
 by_cases hz:q.num<0
 ·exact r12short_neg hq hz w
 ·exact r12short_pos hq hz w
theorem r5valid {a:Iv} (ha:IDig 200 a) (ho:a.Ok) (w:World):Calls Tryz.prog 71 #[I a] w (BoolOk true w):=by
 have hB:Below w.heap.size w w:=Below.refl _ _
 have M1:=fun W=>rqvalid a.lo ha.1 W
 have M2:=fun W=>rqvalid a.hi ha.2 W
 have MC:=fun W=>rqcompare a.lo a.hi ha.1 ha.2 W
 have hc:cmpQ a.lo a.hi≤0:=cmpQ_le.2 ho
 unfold BoolOk at *
 unfold CmpOk at MC
 unfold I
 unfold Q at *
 generalize cmpQ a.lo a.hi=c at *
 have hc0:c≤0:=hc
 clear ha ho hc
 go_enter Tryz.func71, Tryz.ntmps71
 go_wp2_with fail
 have sB:=hB.size
 refine world_cut (fun X=>Below w.heap.size w X∧Row X w.heap.size (.cells #[.string (S a.lo.num),.string (S (a.lo.den:Int)),.string (S a.hi.num),.string (S (a.hi.den:Int))] 30)) ⟨BW,RWh⟩ ?_
 clear hB sB
 rintro V1 ⟨hB,rx⟩
 have sx:=RF4 rx
 refine (M1 _).mono ?_
 rintro e W2 ⟨rfl,h1⟩
 clear sx
 replace hB:=hB.trans (h1.mono hB.size)
 replace rx:=Row.below rx h1
 clear h1
 have sx:=RF4 rx
 go_wp2_with fail
 refine (M2 _).mono ?_
 rintro e W3 ⟨rfl,h1⟩
 clear sx
 replace hB:=hB.trans (h1.mono hB.size)
 replace rx:=Row.below rx h1
 clear h1
 have sx:=RF4 rx
 go_wp2_with fail
 clear rx
 clear sx
 skip
 refine (MC _).mono ?_
 rintro e W4 ⟨rfl,h1⟩
 replace hB:=hB.trans (h1.mono hB.size)
 clear h1
 go_wp2
 go_ret
 exact ⟨rfl,hB⟩
theorem PAt.two {W:World} {p:Option Addr} {l:List Pt} (h:PAt W p l) {i j:Nat} (hi:i<l.length) (hj:j<l.length):∃ g cur,p=some ⟨g,0,none⟩∧Row W g (.cells cur 32)
  ∧ cur[i * 5]? = some (.int .i64 ((ptD l i).t:Int))∧cur[i * 5+1]? = some (.string (S (ptD l i).iv.lo.num))∧cur[i * 5+2]? = some (.string (S ((ptD l i).iv.lo.den:Int)))
  ∧ cur[i * 5+3]? = some (.string (S (ptD l i).iv.hi.num))∧cur[i * 5+4]? = some (.string (S ((ptD l i).iv.hi.den:Int)))∧cur[j * 5]? = some (.int .i64 ((ptD l j).t:Int)):=by
 obtain ⟨g,cur,hp,hr,h0,h1,h2,h3,h4⟩:=h.at hi
 obtain ⟨g',cur',hp',hr',k0,_⟩:=h.at hj
 rw [hp] at hp'
 simp only [Option.some.injEq,Addr.mk.injEq,and_true] at hp'
 subst hp'
 have e:cur'=cur:=by
  have:=hr.2.symm.trans hr'.2
  simp at this
  exact this.symm
 subst e
 exact ⟨g,cur',hp,hr,h0,h1,h2,h3,h4,k0⟩
theorem r12valid {h:Hist} (ho:h.Ok) (p:Option Addr) (n c:Nat) (hn:h.pts.length=n) (w:World) (hp:PAt w p h.pts):Calls Tryz.prog 23 #[HV h (.slice p n c)] w (BoolOk true w):=by
 have hB:Below w.heap.size w w:=Below.refl _ _
 have MS:=fun W=>r12short ho.rdig W
 have MC:=fun W=>rqcompare h.rate 0 (ho.rdig.mono (by omega)) (qdig0 200 (by omega)) W
 have MZ:=fun W=>r12zero W
 have hc:0≤cmpQ h.rate 0:=cmpQ_ge.2 ho.rate
 have hfew:=ho.few
 have KEY:=Lib.hid (And.intro ho.sorted (And.intro ho.times ho.ivs))
 have HP:=Lib.hid hp
 unfold BoolOk
 unfold CmpOk at MC
 rw [Q_zero] at MC
 unfold Q at MS MC
 unfold HV
 clear ho hp
 generalize cmpQ h.rate 0=cm at *
 have hc0:¬ (cm<0):=by omega
 have hln:h.pts.length=n:=hn
 rw [hln] at hfew
 have HN:=Lib.hid hln
 clear hln hn
 have hfew2:(n:Int)≤64:=by omega
 have hfx:=And.intro hc (And.intro hfew hfew2)
 generalize h.pts=l at *
 generalize h.rate=rt at *
 go_enter Tryz.func23, Tryz.ntmps23
 go_wp2_with fail
 have sB:=hB.size
 refine world_cut (fun X=>Below w.heap.size w X∧Row X w.heap.size (.cells #[.string (S rt.num),.string (S (rt.den:Int)),.slice p n c] 26)) ⟨BW,RWh⟩ ?_
 clear hB sB
 rintro V1 ⟨hB,rh⟩
 have sh:=RF3 rh
 refine (MS _).mono ?_
 rintro e W2 ⟨rfl,h1⟩
 clear sh
 replace hB:=hB.trans (h1.mono hB.size)
 replace rh:=Row.below rh h1
 clear h1
 have sh:=RF3 rh
 go_wp2_with fail
 refine wp_region_vals [.bool true,.bool false,.bool false,.pointer (some ⟨w.heap.size,0,none⟩),.agg #[.string (S rt.num),.string (S (rt.den:Int))],.agg #[.string ⟨#[48]⟩,.string ⟨#[49]⟩],.int .i64 cm,.bool false,.bool false,.bool false,.pointer (some ⟨w.heap.size,2,none⟩),.slice p n c,.int .i64 (n:Int),.bool false,.bool false] (by kernel_rfl) (by kernel_rfl) rfl (allVals.cons qv0 (allVals.cons (qvf hfx) (allVals.cons qv0 (allVals.cons qv0 (allVals.cons (qv1 fun X h=>RF3 (Row.below rh h)) (allVals.cons (qv2 fun X h=>MZ X) (allVals.cons (qv2 fun X h=>MC X) (allVals.cons (qvf hfx) (allVals.cons (qvf hfx) (allVals.cons qv0 (allVals.cons qv0 (allVals.cons (qv1 fun X h=>RF3 (Row.below rh h)) (allVals.cons (qvf hfx) (allVals.cons (qvf hfx) (allVals.cons (qvf hfx) trivial))))))))))))))) ?_
 rintro W h1
 clear sh
 replace hB:=hB.trans (h1.mono hB.size)
 replace rh:=Row.below rh h1
 clear h1
 have sh:=RF3 rh
 simp only [setVals,List.setIfInBounds_toArray,List.set_cons_succ,List.set_cons_zero]
 go_wp2_with fail
 go_loopw [5] (fun v5 wr=>∃ i:Nat,v5 = .int .i64 (i:Int)∧i≤n∧Below w.heap.size w wr∧Row wr w.heap.size (.cells #[.string (S rt.num),.string (S (rt.den:Int)),.slice p n c] 26)) (fun v5 _=>(n - RowKit.intOf v5).toNat)
 case atStart=>exact ⟨0,rfl,Nat.zero_le _,hB,rh⟩
 case round =>
  clear sh
  clear hB rh
  obtain ⟨i,rfl,hin,hB,rh⟩:=hrel
  rcases Nat.lt_or_ge i n with hlt | hge
  ·have hil:i<l.length:=by rw [HN.out];exact hlt
   rcases Nat.eq_zero_or_pos i with hi0 | hi0
   ·obtain ⟨q,hq⟩:∃ q,q=ptD l i:=⟨_,rfl⟩
    have hm:q ∈ l:=hq ▸ ptD_mem hil
    have h2:q.t≤1000000:=KEY.out.2.1 q hm
    obtain ⟨h3,h4⟩:=KEY.out.2.2 q hm
    have MV:=fun W=>r5valid (h4.mono (show 40≤200 by omega)) h3 W
    have M1:=fun W=>r12short h4.1 W
    have M2:=fun W=>r12short h4.2 W
    unfold BoolOk I at MV
    unfold Q at M1 M2
    obtain ⟨g,cur,rfl,rg,g0,g1,g2,g3,g4⟩:=PAt.at (PAt.below HP.out hB) hil
    rw [← hq] at g0 g1 g2 g3 g4
    clear hq hm h3 h4 KEY
    have sh:=RF3 rh
    have Fg:∀ X,Row X g (.cells cur 32)→(g<X.heap.size∧X.cell? ⟨g,i * 5,none⟩=some (.int .i64 (q.t:Int))∧X.cell? ⟨g,i * 5+1,none⟩=some (.string (S q.iv.lo.num))∧X.cell? ⟨g,i * 5+2,none⟩=some (.string (S (q.iv.lo.den:Int)))∧X.cell? ⟨g,i * 5+3,none⟩=some (.string (S q.iv.hi.num))∧X.cell? ⟨g,i * 5+4,none⟩=some (.string (S (q.iv.hi.den:Int)))):=fun X h=>⟨h.1,Row.cell_at h _ g0,Row.cell_at h _ g1,Row.cell_at h _ g2,Row.cell_at h _ g3,Row.cell_at h _ g4⟩
    have sg:=Fg _ rg
    have hq0:(0:Int)≤(q.t:Int):=by omega
    have hq1:(q.t:Int)≤1000000:=by omega
    have hiI:(i:Int)<(n:Int):=by omega
    have HI0:=Lib.hid hi0
    clear hi0
    have hfy:=Lib.hid (And.intro hq0 (And.intro hq1 HI0.out))
    go_wp2_with fail
    have sB:=hB.size
    refine world_cut (fun X=>Below w.heap.size w X∧Row X w.heap.size (.cells #[.string (S rt.num),.string (S (rt.den:Int)),.slice (some ⟨g,0,none⟩) n c] 26)∧Row X g (.cells cur 32)∧Row X wr.heap.size (.cells #[.int .i64 (q.t:Int),.string (S q.iv.lo.num),.string (S (q.iv.lo.den:Int)),.string (S q.iv.hi.num),.string (S (q.iv.hi.den:Int))] 32)) ⟨BW,RWh,RWh,RWh⟩ ?_
    clear rh
    clear sh
    clear rg
    clear sg
    clear hB sB
    rintro V3 ⟨hB,rh,rg,rp⟩
    have sh:=RF3 rh
    have sg:=Fg _ rg
    have sp:=RF5 rp
    refine (MV _).mono ?_
    rintro e W4 ⟨rfl,h1⟩
    clear sh
    clear sg
    clear sp
    replace hB:=hB.trans (h1.mono hB.size)
    replace rh:=Row.below rh h1
    replace rg:=Row.below rg h1
    replace rp:=Row.below rp h1
    clear h1
    have sh:=RF3 rh
    have sg:=Fg _ rg
    have sp:=RF5 rp
    go_wp2_with fail
    refine (M1 _).mono ?_
    rintro e W5 ⟨rfl,h1⟩
    clear sh
    clear sg
    clear sp
    replace hB:=hB.trans (h1.mono hB.size)
    replace rh:=Row.below rh h1
    replace rg:=Row.below rg h1
    replace rp:=Row.below rp h1
    clear h1
    have sh:=RF3 rh
    have sg:=Fg _ rg
    have sp:=RF5 rp
    go_wp2_with fail
    refine (M2 _).mono ?_
    rintro e W6 ⟨rfl,h1⟩
    clear sh
    clear sg
    clear sp
    replace hB:=hB.trans (h1.mono hB.size)
    replace rh:=Row.below rh h1
    replace rg:=Row.below rg h1
    replace rp:=Row.below rp h1
    clear h1
    have sh:=RF3 rh
    have sg:=Fg _ rg
    have sp:=RF5 rp
    go_wp2_with fail
    refine wp_region_vals [.bool true,.bool false,.bool false,.bool true,.bool false,.bool false,.bool false,.bool true,.bool false,.bool false,.bool false,.pointer (some ⟨wr.heap.size,0,none⟩),.int .i64 (q.t:Int),.bool false,.bool false,.bool false,.pointer (some ⟨wr.heap.size,0,none⟩),.int .i64 (q.t:Int),.bool false,.bool false,.bool false,.int .i64 (i:Int),.bool false,.bool false,undef,undef,undef,undef,undef,undef,undef,undef,undef,undef,.bool false,.bool false] (by kernel_rfl) (by kernel_rfl) rfl (allVals.cons qv0 (allVals.cons (qvf hfy.out) (allVals.cons qv0 (allVals.cons qv0 (allVals.cons (qvf hfy.out) (allVals.cons (qvf hfy.out) (allVals.cons qv0 (allVals.cons qv0 (allVals.cons (qvf hfy.out) (allVals.cons (qvf hfy.out) (allVals.cons qv0 (allVals.cons qv0 (allVals.cons (qv1 fun X h=>RF5 (Row.below rp h)) (allVals.cons (qvf hfy.out) (allVals.cons (qvf hfy.out) (allVals.cons qv0 (allVals.cons qv0 (allVals.cons (qv1 fun X h=>RF5 (Row.below rp h)) (allVals.cons (qvf hfy.out) (allVals.cons (qvf hfy.out) (allVals.cons qv0 (allVals.cons qv0 (allVals.cons (qvf hfy.out) (allVals.cons qv0 (allVals.cons qv0 (allVals.cons qv0 (allVals.cons qv0 (allVals.cons qv0 (allVals.cons qv0 (allVals.cons qv0 (allVals.cons qv0 (allVals.cons qv0 (allVals.cons qv0 (allVals.cons qv0 (allVals.cons (qvf hfy.out) (allVals.cons (qvf hfy.out) trivial)))))))))))))))))))))))))))))))))))) ?_
    rintro W h1
    clear sh
    clear sg
    clear sp
    replace hB:=hB.trans (h1.mono hB.size)
    replace rh:=Row.below rh h1
    replace rg:=Row.below rg h1
    replace rp:=Row.below rp h1
    clear h1
    have sh:=RF3 rh
    have sg:=Fg _ rg
    have sp:=RF5 rp
    simp only [setVals,List.setIfInBounds_toArray,List.set_cons_succ,List.set_cons_zero]
    go_wp2
    go_roundw
    case rel=>exact ⟨i+1,by go_num,by omega,BW,RWh⟩
    case measure=>simp [RowKit.intOf];try omega
   ·obtain ⟨j,hij⟩:∃ j,i=j+1:=⟨i - 1,by omega⟩
    have hjl:j<l.length:=by omega
    have HIJ:=Lib.hid hij
    obtain ⟨q,hq⟩:∃ q,q=ptD l i:=⟨_,rfl⟩
    have hm:q ∈ l:=hq ▸ ptD_mem hil
    have h2:q.t≤1000000:=KEY.out.2.1 q hm
    obtain ⟨h3,h4⟩:=KEY.out.2.2 q hm
    have MV:=fun W=>r5valid (h4.mono (show 40≤200 by omega)) h3 W
    have M1:=fun W=>r12short h4.1 W
    have M2:=fun W=>r12short h4.2 W
    unfold BoolOk I at MV
    unfold Q at M1 M2
    obtain ⟨q2,hq2⟩:∃ q2,q2=ptD l j:=⟨_,rfl⟩
    have hst:q2.t≤q.t:=by rw [hq,hq2];exact sorted_mono KEY.out.1 (by omega) hil
    obtain ⟨g,cur,rfl,rg,g0,g1,g2,g3,g4,g5⟩:=PAt.two (PAt.below HP.out hB) hil hjl
    rw [← hq2] at g5
    clear hq2
    rw [← hq] at g0 g1 g2 g3 g4
    clear hq hm h3 h4 KEY
    clear hij
    have sh:=RF3 rh
    have Fg:∀ X,Row X g (.cells cur 32)→(g<X.heap.size∧X.cell? ⟨g,i * 5,none⟩=some (.int .i64 (q.t:Int))∧X.cell? ⟨g,i * 5+1,none⟩=some (.string (S q.iv.lo.num))∧X.cell? ⟨g,i * 5+2,none⟩=some (.string (S (q.iv.lo.den:Int)))∧X.cell? ⟨g,i * 5+3,none⟩=some (.string (S q.iv.hi.num))∧X.cell? ⟨g,i * 5+4,none⟩=some (.string (S (q.iv.hi.den:Int)))∧X.cell? ⟨g,j * 5,none⟩=some (.int .i64 (q2.t:Int))):=fun X h=>⟨h.1,Row.cell_at h _ g0,Row.cell_at h _ g1,Row.cell_at h _ g2,Row.cell_at h _ g3,Row.cell_at h _ g4,Row.cell_at h _ g5⟩
    have sg:=Fg _ rg
    have hq0:(0:Int)≤(q.t:Int):=by omega
    have hq1:(q.t:Int)≤1000000:=by omega
    have hiI:(i:Int)<(n:Int):=by omega
    have hw1:IntKind.i64.wrap ((i:Int) - 1)=(j:Int):=by rw [IntKind.wrap_i64];have:=HIJ.out;omega
    have hjI:(j:Int)<(n:Int):=by have:=HIJ.out;omega
    have hi1:(0:Int)<(i:Int):=by omega
    have hst1:(q2.t:Int)≤(q.t:Int):=by omega
    have hfy:=Lib.hid (And.intro hq0 (And.intro hq1 (And.intro hw1 (And.intro hjI (And.intro hi0 (And.intro hst hst1))))))
    go_wp2_with fail
    have sB:=hB.size
    refine world_cut (fun X=>Below w.heap.size w X∧Row X w.heap.size (.cells #[.string (S rt.num),.string (S (rt.den:Int)),.slice (some ⟨g,0,none⟩) n c] 26)∧Row X g (.cells cur 32)∧Row X wr.heap.size (.cells #[.int .i64 (q.t:Int),.string (S q.iv.lo.num),.string (S (q.iv.lo.den:Int)),.string (S q.iv.hi.num),.string (S (q.iv.hi.den:Int))] 32)) ⟨BW,RWh,RWh,RWh⟩ ?_
    clear rh
    clear sh
    clear rg
    clear sg
    clear hB sB
    rintro V3 ⟨hB,rh,rg,rp⟩
    have sh:=RF3 rh
    have sg:=Fg _ rg
    have sp:=RF5 rp
    refine (MV _).mono ?_
    rintro e W4 ⟨rfl,h1⟩
    clear sh
    clear sg
    clear sp
    replace hB:=hB.trans (h1.mono hB.size)
    replace rh:=Row.below rh h1
    replace rg:=Row.below rg h1
    replace rp:=Row.below rp h1
    clear h1
    have sh:=RF3 rh
    have sg:=Fg _ rg
    have sp:=RF5 rp
    go_wp2_with fail
    refine (M1 _).mono ?_
    rintro e W5 ⟨rfl,h1⟩
    clear sh
    clear sg
    clear sp
    replace hB:=hB.trans (h1.mono hB.size)
    replace rh:=Row.below rh h1
    replace rg:=Row.below rg h1
    replace rp:=Row.below rp h1
    clear h1
    have sh:=RF3 rh
    have sg:=Fg _ rg
    have sp:=RF5 rp
    go_wp2_with fail
    refine (M2 _).mono ?_
    rintro e W6 ⟨rfl,h1⟩
    clear sh
    clear sg
    clear sp
    replace hB:=hB.trans (h1.mono hB.size)
    replace rh:=Row.below rh h1
    replace rg:=Row.below rg h1
    replace rp:=Row.below rp h1
    clear h1
    have sh:=RF3 rh
    have sg:=Fg _ rg
    have sp:=RF5 rp
    go_wp2_with fail
    refine wp_region_vals [.bool true,.bool false,.bool false,.bool true,.bool false,.bool false,.bool false,.bool true,.bool false,.bool false,.bool false,.pointer (some ⟨wr.heap.size,0,none⟩),.int .i64 (q.t:Int),.bool false,.bool false,.bool false,.pointer (some ⟨wr.heap.size,0,none⟩),.int .i64 (q.t:Int),.bool false,.bool false,.bool false,.int .i64 (i:Int),.bool true,.bool true,.pointer (some ⟨w.heap.size,2,none⟩),.slice (some ⟨g,0,none⟩) n c,.int .i64 (i:Int),.int .i64 (j:Int),.pointer (some ⟨g,j * 5,none⟩),.pointer (some ⟨g,j * 5,none⟩),.int .i64 (q2.t:Int),.pointer (some ⟨wr.heap.size,0,none⟩),.int .i64 (q.t:Int),.bool false,.bool false,.bool false] (by kernel_rfl) (by kernel_rfl) rfl (allVals.cons qv0 (allVals.cons (qvf hfy.out) (allVals.cons qv0 (allVals.cons qv0 (allVals.cons (qvf hfy.out) (allVals.cons (qvf hfy.out) (allVals.cons qv0 (allVals.cons qv0 (allVals.cons (qvf hfy.out) (allVals.cons (qvf hfy.out) (allVals.cons qv0 (allVals.cons qv0 (allVals.cons (qv1 fun X h=>RF5 (Row.below rp h)) (allVals.cons (qvf hfy.out) (allVals.cons (qvf hfy.out) (allVals.cons qv0 (allVals.cons qv0 (allVals.cons (qv1 fun X h=>RF5 (Row.below rp h)) (allVals.cons (qvf hfy.out) (allVals.cons (qvf hfy.out) (allVals.cons qv0 (allVals.cons qv0 (allVals.cons (qvf hfy.out) (allVals.cons qv0 (allVals.cons qv0 (allVals.cons (qv1 fun X h=>RF3 (Row.below rh h)) (allVals.cons qv0 (allVals.cons (qvf hfy.out) (allVals.cons (qvf hfy.out) (allVals.cons qv0 (allVals.cons (qv1 fun X h=>Fg X (Row.below rg h)) (allVals.cons qv0 (allVals.cons (qv1 fun X h=>RF5 (Row.below rp h)) (allVals.cons (qvf hfy.out) (allVals.cons (qvf hfy.out) (allVals.cons (qvf hfy.out) trivial)))))))))))))))))))))))))))))))))))) ?_
    rintro W h1
    clear sh
    clear sg
    clear sp
    replace hB:=hB.trans (h1.mono hB.size)
    replace rh:=Row.below rh h1
    replace rg:=Row.below rg h1
    replace rp:=Row.below rp h1
    clear h1
    have sh:=RF3 rh
    have sg:=Fg _ rg
    have sp:=RF5 rp
    simp only [setVals,List.setIfInBounds_toArray,List.set_cons_succ,List.set_cons_zero]
    go_wp2
    go_roundw
    case rel=>exact ⟨i+1,by go_num,by omega,BW,RWh⟩
    case measure=>simp [RowKit.intOf];try omega
  ·have hnl:¬ ((i:Int)<(n:Int)):=by omega
   have sh:=RF3 rh
   go_wp2
   go_ret
   exact ⟨rfl,hB⟩
end Go.Proofs.YtnokpldomlmamaaGreatDoor
