/-
 Package affine: Covariance, at valid forms and sources, where nothing is too large.
-/
import Derived.Test.YtnokpldomlmamaaGreatDoorKALine
import Derived.Test.YtnokpldomlmamaaGreatDoorKAMade
set_option linter.unusedSimpArgs false
set_option linter.unusedVariables false
set_option maxRecDepth 100000
set_option maxHeartbeats 16000000
namespace Go.Proofs.YtnokpldomlmamaaGreatDoor
open Go Go.RowKit Go.Lib Go.Shelf
attribute [local go_sem] normalQ
/-- Sources are valid. -/
structure SrcsOk (ss:List Trm):Prop where
 few:ss.length≤128
 src:SrcOk ss
 unit:∀ p,p ∈ ss→0≤p.c∧p.c≤1
 dig:∀ p,p ∈ ss→QDig 200 p.c
/-- Each term's source is in the list. -/
def KnownBy (ss l:List Trm):Prop:=∀ t,t ∈ l→∃ i,i<ss.length∧(trD ss i).s=t.s
/-- A covariance is not too large. -/
structure CovF (a b ss:List Trm):Prop where
 m1:∀ k,k<ss.length→MF (cf a (trD ss k).s) (cf b (trD ss k).s)
 m2:∀ k,k<ss.length→MF (cf a (trD ss k).s * cf b (trD ss k).s) (trD ss k).c
 s:∀ k,k<ss.length→AF (covTo a b ss k) (cf a (trD ss k).s * cf b (trD ss k).s * (trD ss k).c)
theorem cov_skip {a b ss:List Trm} {k:Nat} (h:look a (trD ss k).s=none∨look b (trD ss k).s=none):covTo a b ss (k+1)=covTo a b ss k:=by
 have hz:cf a (trD ss k).s=0∨cf b (trD ss k).s=0:=h.imp (fun e=>by unfold cf;rw [e];rfl) (fun e=>by unfold cf;rw [e];rfl)
 show covTo a b ss k+cf a (trD ss k).s * cf b (trD ss k).s * (trD ss k).c=_
 rcases hz with h | h <;> rw [h] <;> grind
theorem var_unit {ss:List Trm} (h:∀ p,p ∈ ss→0≤p.c∧p.c≤1):∀ i,i<ss.length→betB 0 1 (some (trD ss i).c)=true:=fun i hi=>by
 have:=h _ (trD_mem hi)
 show (decide (0≤(trD ss i).c) && decide ((trD ss i).c≤1))=true
 rw [decide_eq_true this.1,decide_eq_true this.2];rfl
theorem aasks (x:RT) (t:Trm) (bt:Nat) (w:World) (rt:Row w bt (.cells #[.int .i64 (t.s:Int),.string (S t.c.num),.string (S (t.c.den:Int))] 62)):Calls Tryz.prog 103 #[uV x,.pointer (some ⟨bt,0,none⟩)] w (BoolOk (x.s == (t.s:Int)) w):=by
 have hB:Below w.heap.size w w:=Below.refl _ _
 unfold BoolOk uV
 have st:=RF3 rt
 go_enter Tryz.func103, Tryz.ntmps103
 go_wp2
 go_ret
 exact ⟨rfl,BW⟩
theorem acov1 {a b:Frm} {ss:List Trm} (h:CovF a.t b.t ss) (hv:SrcsOk ss) (hkn:KnownBy ss (a.t ++ b.t)) (oa:a.Ok) (ob:b.Ok) (la:a.t.length≤64) (lb:b.t.length≤64) (ps:Option Addr) (cs_:Nat) (pa:Option Addr) (ca:Nat) (pb:Option Addr) (cb:Nat) (bs ba bb:Nat) (w:World) (rq:Row w bs (.cells #[.slice ps ss.length cs_] 71)) (ra:Row w ba (.cells #[.string (S a.c.num),.string (S (a.c.den:Int)),.slice pa a.t.length ca,.string (S a.r.num),.string (S (a.r.den:Int))] 58)) (rb:Row w bb (.cells #[.string (S b.c.num),.string (S (b.c.den:Int)),.slice pb b.t.length cb,.string (S b.r.num),.string (S (b.r.den:Int))] 58)) (hps:TAt 70 w ps ss) (hpa:TAt 62 w pa a.t) (hpb:TAt 62 w pb b.t) (he:Env w):Calls Tryz.prog 97 #[.pointer (some ⟨bs,0,none⟩),.pointer (some ⟨ba,0,none⟩),.pointer (some ⟨bb,0,none⟩)] w (arIs (fun q=>covTo a.t b.t ss ss.length=q) w):=by
 have hB:Below w.heap.size w w:=Below.refl _ _
 have HPs:=Lib.hid hps
 have HPa:=Lib.hid hpa
 have HPb:=Lib.hid hpb
 have FN:=fnum
 obtain ⟨m,hm⟩:∃ m,ss.length=m:=⟨_,rfl⟩
 have hm64:m≤128:=hm ▸ hv.few
 have hmI:(m:Int)≤128:=by omega
 have MA:=fun W (h1:TAt 70 W ps ss)=>aareS ps m cs_ (l:=raws ss) (by rw [raws_length];exact hm) (by omega) W h1
 rw [decide_eq_true (srcU_of hv.src)] at MA
 have MW:=fun W (h1:TAt 70 W ps ss) (H:Env W)=>scontains (l:=raws ss) (fun _=>false) 98 (enters_of Tryz.func98 (by kernel_rfl) rfl) ps m cs_ (by rw [raws_length];exact hm) (by omega) W h1 (fun i hi X hX=>by have hi2:i<ss.length:=(by omega);have h9:=avar (uD (raws ss) i) (o:=some (trD ss i).c) (by rw [raws_at hi2];exact RK.of (hv.dig _ (trD_mem hi2))) X (H.below hX);rw [var_unit hv.unit i hi2] at h9;exact h9)
 rw [decide_eq_false (by simp)] at MW
 have MK:=fun (t:Trm) bt W (hk:∃ i,i<ss.length∧(trD ss i).s=t.s) (rt:Row W bt (.cells #[.int .i64 (t.s:Int),.string (S t.c.num),.string (S (t.c.den:Int))] 62)) (h1:TAt 70 W ps ss)=>sccontains (l:=raws ss) (fun i=>(uD (raws ss) i).s == (t.s:Int)) 103 (.pointer (some ⟨bt,0,none⟩)) (enters_of Tryz.func103 (by kernel_rfl) rfl) ps m cs_ (by rw [raws_length];exact hm) (by omega) W h1 (fun i hi X hX=>aasks _ t bt X (Row.below rt hX))
 have MKT:∀ (t:Trm) (bt:Nat) (W:World),(∃ i,i<ss.length∧(trD ss i).s=t.s)→Row W bt (.cells #[.int .i64 (t.s:Int),.string (S t.c.num),.string (S (t.c.den:Int))] 62)→TAt 70 W ps ss→Calls Tryz.prog 101 #[.slice ps m cs_,.func (.func 103) #[] #[.pointer (some ⟨bt,0,none⟩)]] W (BoolOk true W):=fun t bt W hk rt h1=>by have h9:=MK t bt W hk rt h1;rw [decide_eq_true (by obtain ⟨i,hi,e⟩:=hk;exact ⟨i,by omega,by rw [raws_at hi];simp [Trm.raw,e]⟩)] at h9;exact h9
 have MC:=fun sb W rs (h1:TAt 62 W pa a.t) (h2:TAt 62 W pb b.t)=>aconcat (a:=a.t) (b:=b.t) (by omega) (by omega) sb pa ca pb cb W rs h1 h2
 have FA_:=fun id W (h1:TAt 62 W pa a.t) (H:Env W)=>afind oa.src id pa a.t.length ca rfl (by omega) W h1 H
 have FB_:=fun id W (h1:TAt 62 W pb b.t) (H:Env W)=>afind ob.src id pb b.t.length cb rfl (by omega) W h1 H
 have K1:=fun k (hk:k<ss.length) W (H:Env W)=>nmul (h.m1 k hk) W H
 have K2:=fun k (hk:k<ss.length) W (H:Env W)=>nmul (h.m2 k hk) W H
 have K3:∀ k,k<ss.length→∀ W,Env W→Calls Tryz.prog 83 #[Q (covTo a.t b.t ss k),Q (cf a.t (trD ss k).s * cf b.t (trD ss k).s * (trD ss k).c)] W (QIs (covTo a.t b.t ss (k+1)) W):=fun k hk W H=>nadd (h.s k hk) W H
 have M0:=fun W (H:Env W)=>awhole (n:=0) (by decide) whole0 W H
 rw [show (0:Rat)=covTo a.t b.t ss 0 from rfl] at M0
 have SK:=@cov_skip a.t b.t ss
 unfold BoolOk at MA MW MKT
 unfold FindIs at FA_ FB_
 unfold QIs at K1 K2 K3 M0
 unfold ConcatRes at MC
 unfold arIs
 have HKN:=Lib.hid hkn
 generalize hLL:a.t ++ b.t=L at *
 have hL2:L.length≤200:=by rw [← hLL,List.length_append];omega
 have ER:covTo a.t b.t ss ss.length=covTo a.t b.t ss m:=by rw [hm]
 rw [ER]
 unfold Q at *
 rw [hm] at K1 K2 K3 rq
 have HM:=Lib.hid hm
 clear hLL MK hps hpa hpb hkn h hv hm ER oa ob
 have sq:=RF1 rq
 have sa:=RF5 ra
 have sb:=RF5 rb
 go_enter Tryz.func97, Tryz.ntmps97
 go_wp2_with fail
 have dq_o:bs<w.heap.size:=by omega
 have da_o:ba<w.heap.size:=by omega
 have db_o:bb<w.heap.size:=by omega
 have d0_o:w.heap.size≤w.heap.size:=by have:=hB.size;omega
 have sB:=hB.size
 refine world_cut (fun X=>Below w.heap.size w X∧Row X bs (.cells #[.slice ps m cs_] 71)∧Row X ba (.cells #[.string (S a.c.num),.string (S (a.c.den:Int)),.slice pa a.t.length ca,.string (S a.r.num),.string (S (a.r.den:Int))] 58)∧Row X bb (.cells #[.string (S b.c.num),.string (S (b.c.den:Int)),.slice pb b.t.length cb,.string (S b.r.num),.string (S (b.r.den:Int))] 58)∧Row X w.heap.size (.cells #[.string ⟨#[]⟩,.string ⟨#[]⟩] 23)) ⟨BW,RW8,RW8,RW8,RW8⟩ ?_
 clear rq
 clear sq
 clear ra
 clear sa
 clear rb
 clear sb
 clear hB sB
 rintro V1 ⟨hB,rq,ra,rb,ro⟩
 have sq:=RF1 rq
 have sa:=RF5 ra
 have sb:=RF5 rb
 have so:=RFz2 ro
 refine (MA _ (UAt.below HPs.out hB)).mono ?_
 rintro e W2 ⟨rfl,h1⟩
 have stp:=St4 hB h1 rq ra rb ro;clear hB h1 rq sq ra sa rb sb ro so
 obtain ⟨hB,rq,ra,rb,ro⟩:=stp
 have sq:=RF1 rq
 have sa:=RF5 ra
 have sb:=RF5 rb
 have so:=RFz2 ro
 go_wp2_with fail
 refine (MW _ (UAt.below HPs.out hB) (he.below hB)).mono ?_
 rintro e W3 ⟨rfl,h1⟩
 have stp:=St4 hB h1 rq ra rb ro;clear hB h1 rq sq ra sa rb sb ro so
 obtain ⟨hB,rq,ra,rb,ro⟩:=stp
 have sq:=RF1 rq
 have sa:=RF5 ra
 have sb:=RF5 rb
 have so:=RFz2 ro
 go_wp2_with fail
 refine (acheck_true _).mono ?_
 rintro e W4 ⟨rfl,h1⟩
 have stp:=St4 hB h1 rq ra rb ro;clear hB h1 rq sq ra sa rb sb ro so
 obtain ⟨hB,rq,ra,rb,ro⟩:=stp
 have sq:=RF1 rq
 have sa:=RF5 ra
 have sb:=RF5 rb
 have so:=RFz2 ro
 go_wp2_with fail
 have do_b1:w.heap.size<W4.heap.size:=by omega
 have sB:=hB.size
 refine world_cut (fun X=>Below w.heap.size w X∧Row X bs (.cells #[.slice ps m cs_] 71)∧Row X ba (.cells #[.string (S a.c.num),.string (S (a.c.den:Int)),.slice pa a.t.length ca,.string (S a.r.num),.string (S (a.r.den:Int))] 58)∧Row X bb (.cells #[.string (S b.c.num),.string (S (b.c.den:Int)),.slice pb b.t.length cb,.string (S b.r.num),.string (S (b.r.den:Int))] 58)∧Row X w.heap.size (.cells #[.string ⟨#[]⟩,.string ⟨#[]⟩] 23)∧Row X W4.heap.size (.cells #[.slice pa a.t.length ca,.slice pb b.t.length cb] 56)) ⟨BW,RW8,RW8,RW8,RW8,RW8⟩ ?_
 clear rq
 clear sq
 clear ra
 clear sa
 clear rb
 clear sb
 clear ro
 clear so
 clear hB sB
 rintro V5 ⟨hB,rq,ra,rb,ro,rb1⟩
 have sq:=RF1 rq
 have sa:=RF5 ra
 have sb:=RF5 rb
 have so:=RFz2 ro
 have sb1:=RF2 rb1
 refine (MC _ _ rb1 (UAt.below HPa.out hB) (UAt.below HPb.out hB)).mono ?_
 rintro e W6 ⟨pc,cc,hTc,rfl,h1⟩
 have stp:=St5 hB h1 rq ra rb ro rb1;clear hB h1 rq sq ra sa rb sb ro so rb1 sb1
 obtain ⟨hB,rq,ra,rb,ro,rb1⟩:=stp
 have sq:=RF1 rq
 have sa:=RF5 ra
 have sb:=RF5 rb
 have so:=RFz2 ro
 have sb1:=RF2 rb1
 go_wp2_with fail
 clear rb1
 clear sb1
 clear sq
 clear sa
 clear sb
 clear so
 go_loopw [35] (fun v35 wr=>∃ (i:Nat),v35 = .int .i64 (i:Int)∧i≤L.length∧TAt 62 wr pc L∧Below w.heap.size w wr∧Row wr bs (.cells #[.slice ps m cs_] 71)∧Row wr ba (.cells #[.string (S a.c.num),.string (S (a.c.den:Int)),.slice pa a.t.length ca,.string (S a.r.num),.string (S (a.r.den:Int))] 58)∧Row wr bb (.cells #[.string (S b.c.num),.string (S (b.c.den:Int)),.slice pb b.t.length cb,.string (S b.r.num),.string (S (b.r.den:Int))] 58)∧Row wr w.heap.size (.cells #[.string ⟨#[]⟩,.string ⟨#[]⟩] 23)) (fun v35 _=>(L.length - RowKit.intOf v35).toNat)
 case atStart=>exact ⟨0,rfl,by omega,hTc,hB,rq,ra,rb,ro⟩
 case round =>
  clear hB hTc rq ra rb ro
  obtain ⟨i,rfl,hin,hTc,hB,rq,ra,rb,ro⟩:=hrel
  obtain ⟨wA,rfl⟩:∃ W,W=wr:=⟨_,rfl⟩
  have sq:=RF1 rq
  have sa:=RF5 ra
  have sb:=RF5 rb
  have so:=RFz2 ro
  rcases Nat.lt_or_ge i L.length with hlt | hge
  ·have hlI:(i:Int)<(L.length:Int):=by omega
   obtain ⟨t,ht⟩:∃ t,t=trD L i:=⟨_,rfl⟩
   have hk:=HKN.out t (by rw [ht];exact trD_mem hlt)
   have HK:=Lib.hid hk
   clear hk
   obtain ⟨g,gcur,rfl,rg,g0,g1,g2⟩:=TAt.at hTc hlt
   rw [← ht] at g0 g1 g2
   clear ht
   have Fg:∀ X,Row X g (.cells gcur 62)→(g<X.heap.size∧X.cell? ⟨g,i * 3,none⟩=some (.int .i64 (t.s:Int))∧X.cell? ⟨g,i * 3+1,none⟩=some (.string (S t.c.num))∧X.cell? ⟨g,i * 3+2,none⟩=some (.string (S (t.c.den:Int)))):=fun X h=>⟨h.1,Row.cell_at h _ g0,Row.cell_at h _ g1,Row.cell_at h _ g2⟩
   have sg:=Fg _ rg
   go_wp2_with fail
   have do_t:w.heap.size<wA.heap.size:=by omega
   have sB:=hB.size
   refine world_cut (fun X=>Below w.heap.size w X∧Row X bs (.cells #[.slice ps m cs_] 71)∧Row X ba (.cells #[.string (S a.c.num),.string (S (a.c.den:Int)),.slice pa a.t.length ca,.string (S a.r.num),.string (S (a.r.den:Int))] 58)∧Row X bb (.cells #[.string (S b.c.num),.string (S (b.c.den:Int)),.slice pb b.t.length cb,.string (S b.r.num),.string (S (b.r.den:Int))] 58)∧Row X w.heap.size (.cells #[.string ⟨#[]⟩,.string ⟨#[]⟩] 23)∧Row X g (.cells gcur 62)∧Row X wA.heap.size (.cells #[.int .i64 (t.s:Int),.string (S t.c.num),.string (S (t.c.den:Int))] 62)∧TAt 62 X (some ⟨g,0,none⟩) L) ⟨BW,RW8,RW8,RW8,RW8,RW8,RW8,TW⟩ ?_
   clear rq
   clear sq
   clear ra
   clear sa
   clear rb
   clear sb
   clear ro
   clear so
   clear rg
   clear sg
   clear hB sB hTc
   rintro V7 ⟨hB,rq,ra,rb,ro,rg,rt,hTc⟩
   have sq:=RF1 rq
   have sa:=RF5 ra
   have sb:=RF5 rb
   have so:=RFz2 ro
   have sg:=Fg _ rg
   have st:=RF3 rt
   refine (MKT t _ _ HK.out rt (UAt.below HPs.out hB)).mono ?_
   rintro e W8 ⟨rfl,h1⟩
   replace hTc:=UAt.below hTc h1
   have stp:=St6 hB h1 rq ra rb ro rg rt;clear hB h1 rq sq ra sa rb sb ro so rg sg rt st
   obtain ⟨hB,rq,ra,rb,ro,rg,rt⟩:=stp
   have sq:=RF1 rq
   have sa:=RF5 ra
   have sb:=RF5 rb
   have so:=RFz2 ro
   have sg:=Fg _ rg
   have st:=RF3 rt
   go_wp2_with fail
   refine (acheck_true _).mono ?_
   rintro e W9 ⟨rfl,h1⟩
   replace hTc:=UAt.below hTc h1
   have stp:=St6 hB h1 rq ra rb ro rg rt;clear hB h1 rq sq ra sa rb sb ro so rg sg rt st
   obtain ⟨hB,rq,ra,rb,ro,rg,rt⟩:=stp
   have sq:=RF1 rq
   have sa:=RF5 ra
   have sb:=RF5 rb
   have so:=RFz2 ro
   have sg:=Fg _ rg
   have st:=RF3 rt
   go_wp2
   go_roundw
   case rel=>exact ⟨i+1,by go_num,by omega,TW,BW,RW8,RW8,RW8,RW8⟩
   case measure=>simp [RowKit.intOf];omega
  ·obtain rfl:i=L.length:=by omega
   clear hTc HKN MKT MC MA MW hge hin
   go_wp2_with fail
   refine (M0 _ (he.below hB)).mono ?_
   rintro e W7 ⟨rfl,h1⟩
   have stp:=St4 hB h1 rq ra rb ro;clear hB h1 rq sq ra sa rb sb ro so
   obtain ⟨hB,rq,ra,rb,ro⟩:=stp
   have sq:=RF1 rq
   have sa:=RF5 ra
   have sb:=RF5 rb
   have so:=RFz2 ro
   go_wp2_with fail
   have dq_k:bs<W7.heap.size:=by omega
   have da_k:ba<W7.heap.size:=by omega
   have db_k:bb<W7.heap.size:=by omega
   have do_k:w.heap.size<W7.heap.size:=by omega
   have d0_k:w.heap.size≤W7.heap.size:=by have:=hB.size;omega
   have sB:=hB.size
   refine wp_cut (fun X=>Below w.heap.size w X∧Row X bs (.cells #[.slice ps m cs_] 71)∧Row X ba (.cells #[.string (S a.c.num),.string (S (a.c.den:Int)),.slice pa a.t.length ca,.string (S a.r.num),.string (S (a.r.den:Int))] 58)∧Row X bb (.cells #[.string (S b.c.num),.string (S (b.c.den:Int)),.slice pb b.t.length cb,.string (S b.r.num),.string (S (b.r.den:Int))] 58)∧Row X w.heap.size (.cells #[.string ⟨#[]⟩,.string ⟨#[]⟩] 23)∧Row X W7.heap.size (.cells #[.string (S (covTo a.t b.t ss 0).num),.string (S ((covTo a.t b.t ss 0).den:Int))] 112)) ⟨BW,RW8,RW8,RW8,RW8,RW8⟩ ?_
   clear rq
   clear sq
   clear ra
   clear sa
   clear rb
   clear sb
   clear ro
   clear so
   clear hB sB
   rintro V8 ⟨hB,rq,ra,rb,ro,rk⟩
   have sq:=RF1 rq
   have sa:=RF5 ra
   have sb:=RF5 rb
   have so:=RFz2 ro
   have sk:=RFz2 rk
   clear sq
   clear sa
   clear sb
   clear so
   clear sk
   go_loopw [47] (fun v47 wr=>∃ (j:Nat),v47 = .int .i64 (j:Int)∧j≤m∧Below w.heap.size w wr∧Row wr bs (.cells #[.slice ps m cs_] 71)∧Row wr ba (.cells #[.string (S a.c.num),.string (S (a.c.den:Int)),.slice pa a.t.length ca,.string (S a.r.num),.string (S (a.r.den:Int))] 58)∧Row wr bb (.cells #[.string (S b.c.num),.string (S (b.c.den:Int)),.slice pb b.t.length cb,.string (S b.r.num),.string (S (b.r.den:Int))] 58)∧Row wr w.heap.size (.cells #[.string ⟨#[]⟩,.string ⟨#[]⟩] 23)∧Row wr W7.heap.size (.cells #[.string (S (covTo a.t b.t ss j).num),.string (S ((covTo a.t b.t ss j).den:Int))] 112)) (fun v47 _=>(m - RowKit.intOf v47).toNat)
   case atStart=>exact ⟨0,rfl,by omega,hB,rq,ra,rb,ro,rk⟩
   case round =>
    clear hB rq ra rb ro rk
    obtain ⟨j,rfl,hjn,hB,rq,ra,rb,ro,rk⟩:=hrel
    obtain ⟨wB,rfl⟩:∃ W,W=wr:=⟨_,rfl⟩
    have sq:=RF1 rq
    have sa:=RF5 ra
    have sb:=RF5 rb
    have so:=RFz2 ro
    have sk:=RFz2 rk
    rcases Nat.lt_or_ge j m with hlt | hge
    ·have hlI:(j:Int)<(m:Int):=by omega
     have hlt':j<ss.length:=by rw [HM.out];exact hlt
     have K1:=K1 j hlt
     have K2:=K2 j hlt
     have K3:=K3 j hlt
     have SK:=@SK j
     obtain ⟨v,hv⟩:∃ v,v=trD ss j:=⟨_,rfl⟩
     rw [← hv] at K1 K2 K3 SK
     have FA_:=FA_ v.s
     have FB_:=FB_ v.s
     have HSK:=Lib.hid SK
     clear SK
     obtain ⟨g,gcur,rfl,rg,g0,g1,g2⟩:=TAt.at (UAt.below HPs.out hB) hlt'
     rw [← hv] at g0 g1 g2
     clear hv
     have Fg:∀ X,Row X g (.cells gcur 70)→(g<X.heap.size∧X.cell? ⟨g,j * 3,none⟩=some (.int .i64 (v.s:Int))∧X.cell? ⟨g,j * 3+1,none⟩=some (.string (S v.c.num))∧X.cell? ⟨g,j * 3+2,none⟩=some (.string (S (v.c.den:Int)))):=fun X h=>⟨h.1,Row.cell_at h _ g0,Row.cell_at h _ g1,Row.cell_at h _ g2⟩
     have sg:=Fg _ rg
     obtain ⟨xa,hxa⟩:∃ x,cf a.t v.s=x:=⟨_,rfl⟩
     obtain ⟨xb,hxb⟩:∃ x,cf b.t v.s=x:=⟨_,rfl⟩
     rw [hxa] at K1 K2 K3 FA_
     rw [hxb] at K1 K2 K3 FB_
     clear hxa hxb
     generalize xa * xb * v.c=pz at *
     generalize xa * xb=py at *
     cases hla:look a.t v.s with
     | none =>
      have hia:(look a.t v.s).isSome=false:=by rw [hla];rfl
      rw [hia] at FA_
      have ESK:=Lib.hid (HSK.out (.inl hla))
      clear hla hia K1 K2 K3
      generalize (look b.t v.s).isSome=isb at *
      go_wp2_with fail
      have do_x:w.heap.size<wB.heap.size:=by omega
      have dk_x:W7.heap.size<wB.heap.size:=by omega
      have sB:=hB.size
      refine world_cut (fun X=>Below w.heap.size w X∧Row X bs (.cells #[.slice (some ⟨g,0,none⟩) m cs_] 71)∧Row X ba (.cells #[.string (S a.c.num),.string (S (a.c.den:Int)),.slice pa a.t.length ca,.string (S a.r.num),.string (S (a.r.den:Int))] 58)∧Row X bb (.cells #[.string (S b.c.num),.string (S (b.c.den:Int)),.slice pb b.t.length cb,.string (S b.r.num),.string (S (b.r.den:Int))] 58)∧Row X w.heap.size (.cells #[.string ⟨#[]⟩,.string ⟨#[]⟩] 23)∧Row X W7.heap.size (.cells #[.string (S (covTo a.t b.t ss j).num),.string (S ((covTo a.t b.t ss j).den:Int))] 112)∧Row X g (.cells gcur 70)∧Row X wB.heap.size (.cells #[.int .i64 (v.s:Int),.string (S v.c.num),.string (S (v.c.den:Int))] 70)) ⟨BW,RW8,RW8,RW8,RW8,RW8,RW8,RW8⟩ ?_
      clear rq
      clear sq
      clear ra
      clear sa
      clear rb
      clear sb
      clear ro
      clear so
      clear rk
      clear sk
      clear rg
      clear sg
      clear hB sB
      rintro V9 ⟨hB,rq,ra,rb,ro,rk,rg,rx⟩
      have sq:=RF1 rq
      have sa:=RF5 ra
      have sb:=RF5 rb
      have so:=RFz2 ro
      have sk:=RFz2 rk
      have sg:=Fg _ rg
      have sx:=RF3 rx
      refine (FA_ _ (UAt.below HPa.out hB) (he.below hB)).mono ?_
      rintro e W10 ⟨rfl,h1⟩
      have stp:=St7 hB h1 rq ra rb ro rk rg rx;clear hB h1 rq sq ra sa rb sb ro so rk sk rg sg rx sx
      obtain ⟨hB,rq,ra,rb,ro,rk,rg,rx⟩:=stp
      have sq:=RF1 rq
      have sa:=RF5 ra
      have sb:=RF5 rb
      have so:=RFz2 ro
      have sk:=RFz2 rk
      have sg:=Fg _ rg
      have sx:=RF3 rx
      go_wp2_with fail
      have do_y:w.heap.size<W10.heap.size:=by omega
      have dk_y:W7.heap.size<W10.heap.size:=by omega
      have sB:=hB.size
      refine world_cut (fun X=>Below w.heap.size w X∧Row X bs (.cells #[.slice (some ⟨g,0,none⟩) m cs_] 71)∧Row X ba (.cells #[.string (S a.c.num),.string (S (a.c.den:Int)),.slice pa a.t.length ca,.string (S a.r.num),.string (S (a.r.den:Int))] 58)∧Row X bb (.cells #[.string (S b.c.num),.string (S (b.c.den:Int)),.slice pb b.t.length cb,.string (S b.r.num),.string (S (b.r.den:Int))] 58)∧Row X w.heap.size (.cells #[.string ⟨#[]⟩,.string ⟨#[]⟩] 23)∧Row X W7.heap.size (.cells #[.string (S (covTo a.t b.t ss j).num),.string (S ((covTo a.t b.t ss j).den:Int))] 112)∧Row X g (.cells gcur 70)∧Row X wB.heap.size (.cells #[.int .i64 (v.s:Int),.string (S v.c.num),.string (S (v.c.den:Int))] 70)∧Row X W10.heap.size (.cells #[.string (S xa.num),.string (S (xa.den:Int))] 112)) ⟨BW,RW8,RW8,RW8,RW8,RW8,RW8,RW8,RW8⟩ ?_
      clear rq
      clear sq
      clear ra
      clear sa
      clear rb
      clear sb
      clear ro
      clear so
      clear rk
      clear sk
      clear rg
      clear sg
      clear rx
      clear sx
      clear hB sB
      rintro V11 ⟨hB,rq,ra,rb,ro,rk,rg,rx,ry⟩
      have sq:=RF1 rq
      have sa:=RF5 ra
      have sb:=RF5 rb
      have so:=RFz2 ro
      have sk:=RFz2 rk
      have sg:=Fg _ rg
      have sx:=RF3 rx
      have sy:=RF2 ry
      refine (FB_ _ (UAt.below HPb.out hB) (he.below hB)).mono ?_
      rintro e W12 ⟨rfl,h1⟩
      have stp:=St8 hB h1 rq ra rb ro rk rg rx ry;clear hB h1 rq sq ra sa rb sb ro so rk sk rg sg rx sx ry sy
      obtain ⟨hB,rq,ra,rb,ro,rk,rg,rx,ry⟩:=stp
      have sq:=RF1 rq
      have sa:=RF5 ra
      have sb:=RF5 rb
      have so:=RFz2 ro
      have sk:=RFz2 rk
      have sg:=Fg _ rg
      have sx:=RF3 rx
      have sy:=RF2 ry
      go_wp2
      go_roundw
      case rel=>exact ⟨j+1,by go_num,by omega,BW,RW8,RW8,RW8,RW8,by rw [ESK.out];exact RW8⟩
      case measure=>simp [RowKit.intOf];omega
     | some v1 =>
      have hia:(look a.t v.s).isSome=true:=by rw [hla];rfl
      rw [hia] at FA_
      clear hla hia
      cases hlb:look b.t v.s with
      | none =>
       have hib:(look b.t v.s).isSome=false:=by rw [hlb];rfl
       rw [hib] at FB_
       have ESK:=Lib.hid (HSK.out (.inr hlb))
       clear hlb hib K1 K2 K3
       go_wp2_with fail
       have do_x:w.heap.size<wB.heap.size:=by omega
       have dk_x:W7.heap.size<wB.heap.size:=by omega
       have sB:=hB.size
       refine world_cut (fun X=>Below w.heap.size w X∧Row X bs (.cells #[.slice (some ⟨g,0,none⟩) m cs_] 71)∧Row X ba (.cells #[.string (S a.c.num),.string (S (a.c.den:Int)),.slice pa a.t.length ca,.string (S a.r.num),.string (S (a.r.den:Int))] 58)∧Row X bb (.cells #[.string (S b.c.num),.string (S (b.c.den:Int)),.slice pb b.t.length cb,.string (S b.r.num),.string (S (b.r.den:Int))] 58)∧Row X w.heap.size (.cells #[.string ⟨#[]⟩,.string ⟨#[]⟩] 23)∧Row X W7.heap.size (.cells #[.string (S (covTo a.t b.t ss j).num),.string (S ((covTo a.t b.t ss j).den:Int))] 112)∧Row X g (.cells gcur 70)∧Row X wB.heap.size (.cells #[.int .i64 (v.s:Int),.string (S v.c.num),.string (S (v.c.den:Int))] 70)) ⟨BW,RW8,RW8,RW8,RW8,RW8,RW8,RW8⟩ ?_
       clear rq
       clear sq
       clear ra
       clear sa
       clear rb
       clear sb
       clear ro
       clear so
       clear rk
       clear sk
       clear rg
       clear sg
       clear hB sB
       rintro V9 ⟨hB,rq,ra,rb,ro,rk,rg,rx⟩
       have sq:=RF1 rq
       have sa:=RF5 ra
       have sb:=RF5 rb
       have so:=RFz2 ro
       have sk:=RFz2 rk
       have sg:=Fg _ rg
       have sx:=RF3 rx
       refine (FA_ _ (UAt.below HPa.out hB) (he.below hB)).mono ?_
       rintro e W10 ⟨rfl,h1⟩
       have stp:=St7 hB h1 rq ra rb ro rk rg rx;clear hB h1 rq sq ra sa rb sb ro so rk sk rg sg rx sx
       obtain ⟨hB,rq,ra,rb,ro,rk,rg,rx⟩:=stp
       have sq:=RF1 rq
       have sa:=RF5 ra
       have sb:=RF5 rb
       have so:=RFz2 ro
       have sk:=RFz2 rk
       have sg:=Fg _ rg
       have sx:=RF3 rx
       go_wp2_with fail
       have do_y:w.heap.size<W10.heap.size:=by omega
       have dk_y:W7.heap.size<W10.heap.size:=by omega
       have sB:=hB.size
       refine world_cut (fun X=>Below w.heap.size w X∧Row X bs (.cells #[.slice (some ⟨g,0,none⟩) m cs_] 71)∧Row X ba (.cells #[.string (S a.c.num),.string (S (a.c.den:Int)),.slice pa a.t.length ca,.string (S a.r.num),.string (S (a.r.den:Int))] 58)∧Row X bb (.cells #[.string (S b.c.num),.string (S (b.c.den:Int)),.slice pb b.t.length cb,.string (S b.r.num),.string (S (b.r.den:Int))] 58)∧Row X w.heap.size (.cells #[.string ⟨#[]⟩,.string ⟨#[]⟩] 23)∧Row X W7.heap.size (.cells #[.string (S (covTo a.t b.t ss j).num),.string (S ((covTo a.t b.t ss j).den:Int))] 112)∧Row X g (.cells gcur 70)∧Row X wB.heap.size (.cells #[.int .i64 (v.s:Int),.string (S v.c.num),.string (S (v.c.den:Int))] 70)∧Row X W10.heap.size (.cells #[.string (S xa.num),.string (S (xa.den:Int))] 112)) ⟨BW,RW8,RW8,RW8,RW8,RW8,RW8,RW8,RW8⟩ ?_
       clear rq
       clear sq
       clear ra
       clear sa
       clear rb
       clear sb
       clear ro
       clear so
       clear rk
       clear sk
       clear rg
       clear sg
       clear rx
       clear sx
       clear hB sB
       rintro V11 ⟨hB,rq,ra,rb,ro,rk,rg,rx,ry⟩
       have sq:=RF1 rq
       have sa:=RF5 ra
       have sb:=RF5 rb
       have so:=RFz2 ro
       have sk:=RFz2 rk
       have sg:=Fg _ rg
       have sx:=RF3 rx
       have sy:=RF2 ry
       refine (FB_ _ (UAt.below HPb.out hB) (he.below hB)).mono ?_
       rintro e W12 ⟨rfl,h1⟩
       have stp:=St8 hB h1 rq ra rb ro rk rg rx ry;clear hB h1 rq sq ra sa rb sb ro so rk sk rg sg rx sx ry sy
       obtain ⟨hB,rq,ra,rb,ro,rk,rg,rx,ry⟩:=stp
       have sq:=RF1 rq
       have sa:=RF5 ra
       have sb:=RF5 rb
       have so:=RFz2 ro
       have sk:=RFz2 rk
       have sg:=Fg _ rg
       have sx:=RF3 rx
       have sy:=RF2 ry
       go_wp2
       go_roundw
       case rel=>exact ⟨j+1,by go_num,by omega,BW,RW8,RW8,RW8,RW8,by rw [ESK.out];exact RW8⟩
       case measure=>simp [RowKit.intOf];omega
      | some v2 =>
       have hib:(look b.t v.s).isSome=true:=by rw [hlb];rfl
       rw [hib] at FB_
       clear hlb hib
       go_wp2_with fail
       have do_x:w.heap.size<wB.heap.size:=by omega
       have dk_x:W7.heap.size<wB.heap.size:=by omega
       have sB:=hB.size
       refine world_cut (fun X=>Below w.heap.size w X∧Row X bs (.cells #[.slice (some ⟨g,0,none⟩) m cs_] 71)∧Row X ba (.cells #[.string (S a.c.num),.string (S (a.c.den:Int)),.slice pa a.t.length ca,.string (S a.r.num),.string (S (a.r.den:Int))] 58)∧Row X bb (.cells #[.string (S b.c.num),.string (S (b.c.den:Int)),.slice pb b.t.length cb,.string (S b.r.num),.string (S (b.r.den:Int))] 58)∧Row X w.heap.size (.cells #[.string ⟨#[]⟩,.string ⟨#[]⟩] 23)∧Row X W7.heap.size (.cells #[.string (S (covTo a.t b.t ss j).num),.string (S ((covTo a.t b.t ss j).den:Int))] 112)∧Row X g (.cells gcur 70)∧Row X wB.heap.size (.cells #[.int .i64 (v.s:Int),.string (S v.c.num),.string (S (v.c.den:Int))] 70)) ⟨BW,RW8,RW8,RW8,RW8,RW8,RW8,RW8⟩ ?_
       clear rq
       clear sq
       clear ra
       clear sa
       clear rb
       clear sb
       clear ro
       clear so
       clear rk
       clear sk
       clear rg
       clear sg
       clear hB sB
       rintro V9 ⟨hB,rq,ra,rb,ro,rk,rg,rx⟩
       have sq:=RF1 rq
       have sa:=RF5 ra
       have sb:=RF5 rb
       have so:=RFz2 ro
       have sk:=RFz2 rk
       have sg:=Fg _ rg
       have sx:=RF3 rx
       refine (FA_ _ (UAt.below HPa.out hB) (he.below hB)).mono ?_
       rintro e W10 ⟨rfl,h1⟩
       have stp:=St7 hB h1 rq ra rb ro rk rg rx;clear hB h1 rq sq ra sa rb sb ro so rk sk rg sg rx sx
       obtain ⟨hB,rq,ra,rb,ro,rk,rg,rx⟩:=stp
       have sq:=RF1 rq
       have sa:=RF5 ra
       have sb:=RF5 rb
       have so:=RFz2 ro
       have sk:=RFz2 rk
       have sg:=Fg _ rg
       have sx:=RF3 rx
       go_wp2_with fail
       have do_y:w.heap.size<W10.heap.size:=by omega
       have dk_y:W7.heap.size<W10.heap.size:=by omega
       have sB:=hB.size
       refine world_cut (fun X=>Below w.heap.size w X∧Row X bs (.cells #[.slice (some ⟨g,0,none⟩) m cs_] 71)∧Row X ba (.cells #[.string (S a.c.num),.string (S (a.c.den:Int)),.slice pa a.t.length ca,.string (S a.r.num),.string (S (a.r.den:Int))] 58)∧Row X bb (.cells #[.string (S b.c.num),.string (S (b.c.den:Int)),.slice pb b.t.length cb,.string (S b.r.num),.string (S (b.r.den:Int))] 58)∧Row X w.heap.size (.cells #[.string ⟨#[]⟩,.string ⟨#[]⟩] 23)∧Row X W7.heap.size (.cells #[.string (S (covTo a.t b.t ss j).num),.string (S ((covTo a.t b.t ss j).den:Int))] 112)∧Row X g (.cells gcur 70)∧Row X wB.heap.size (.cells #[.int .i64 (v.s:Int),.string (S v.c.num),.string (S (v.c.den:Int))] 70)∧Row X W10.heap.size (.cells #[.string (S xa.num),.string (S (xa.den:Int))] 112)) ⟨BW,RW8,RW8,RW8,RW8,RW8,RW8,RW8,RW8⟩ ?_
       clear rq
       clear sq
       clear ra
       clear sa
       clear rb
       clear sb
       clear ro
       clear so
       clear rk
       clear sk
       clear rg
       clear sg
       clear rx
       clear sx
       clear hB sB
       rintro V11 ⟨hB,rq,ra,rb,ro,rk,rg,rx,ry⟩
       have sq:=RF1 rq
       have sa:=RF5 ra
       have sb:=RF5 rb
       have so:=RFz2 ro
       have sk:=RFz2 rk
       have sg:=Fg _ rg
       have sx:=RF3 rx
       have sy:=RF2 ry
       refine (FB_ _ (UAt.below HPb.out hB) (he.below hB)).mono ?_
       rintro e W12 ⟨rfl,h1⟩
       have stp:=St8 hB h1 rq ra rb ro rk rg rx ry;clear hB h1 rq sq ra sa rb sb ro so rk sk rg sg rx sx ry sy
       obtain ⟨hB,rq,ra,rb,ro,rk,rg,rx,ry⟩:=stp
       have sq:=RF1 rq
       have sa:=RF5 ra
       have sb:=RF5 rb
       have so:=RFz2 ro
       have sk:=RFz2 rk
       have sg:=Fg _ rg
       have sx:=RF3 rx
       have sy:=RF2 ry
       go_wp2_with fail
       have do_z:w.heap.size<W12.heap.size:=by omega
       have dk_z:W7.heap.size<W12.heap.size:=by omega
       have sB:=hB.size
       refine wp_cut (fun X=>Below w.heap.size w X∧Row X bs (.cells #[.slice (some ⟨g,0,none⟩) m cs_] 71)∧Row X ba (.cells #[.string (S a.c.num),.string (S (a.c.den:Int)),.slice pa a.t.length ca,.string (S a.r.num),.string (S (a.r.den:Int))] 58)∧Row X bb (.cells #[.string (S b.c.num),.string (S (b.c.den:Int)),.slice pb b.t.length cb,.string (S b.r.num),.string (S (b.r.den:Int))] 58)∧Row X w.heap.size (.cells #[.string ⟨#[]⟩,.string ⟨#[]⟩] 23)∧Row X W7.heap.size (.cells #[.string (S (covTo a.t b.t ss j).num),.string (S ((covTo a.t b.t ss j).den:Int))] 112)∧Row X g (.cells gcur 70)∧Row X wB.heap.size (.cells #[.int .i64 (v.s:Int),.string (S v.c.num),.string (S (v.c.den:Int))] 70)∧Row X W10.heap.size (.cells #[.string (S xa.num),.string (S (xa.den:Int))] 112)∧Row X W12.heap.size (.cells #[.string (S xb.num),.string (S (xb.den:Int))] 112)) ⟨BW,RW8,RW8,RW8,RW8,RW8,RW8,RW8,RW8,RW8⟩ ?_
       clear rq
       clear sq
       clear ra
       clear sa
       clear rb
       clear sb
       clear ro
       clear so
       clear rk
       clear sk
       clear rg
       clear sg
       clear rx
       clear sx
       clear ry
       clear sy
       clear hB sB
       rintro V13 ⟨hB,rq,ra,rb,ro,rk,rg,rx,ry,rz⟩
       have sq:=RF1 rq
       have sa:=RF5 ra
       have sb:=RF5 rb
       have so:=RFz2 ro
       have sk:=RFz2 rk
       have sg:=Fg _ rg
       have sx:=RF3 rx
       have sy:=RF2 ry
       have sz:=RF2 rz
       refine wp_region_items 9 [.val (.agg #[.string (S (covTo a.t b.t ss j).num),.string (S ((covTo a.t b.t ss j).den:Int))]),.val (.agg #[.string (S xa.num),.string (S (xa.den:Int))]),.val (.agg #[.string (S xb.num),.string (S (xb.den:Int))]),.val (.agg #[.string (S py.num),.string (S (py.den:Int))]),.val (.pointer (some ⟨wB.heap.size,1,none⟩)),.val (.agg #[.string (S v.c.num),.string (S (v.c.den:Int))]),.val (.agg #[.string (S v.c.num),.string (S (v.c.den:Int))]),.val (.agg #[.string (S pz.num),.string (S (pz.den:Int))]),.val (.agg #[.string (S (covTo a.t b.t ss (j+1)).num),.string (S ((covTo a.t b.t ss (j+1)).den:Int))])] (by kernel_rfl) (by kernel_rfl) trivial (allItems.cons (qi1 fun X h=>RFz2 (Row.below rk h)) (allItems.cons (qi1 fun X h=>RF2 (Row.below ry h)) (allItems.cons (qi1 fun X h=>RF2 (Row.below rz h)) (allItems.cons (qi2 fun X h=>K1 X (he.below (hB.trans (h.mono hB.size)))) (allItems.cons qi0 (allItems.cons (qi1 fun X h=>RF3 (Row.below rx h)) (allItems.cons qi0 (allItems.cons (qi2 fun X h=>K2 X (he.below (hB.trans (h.mono hB.size)))) (allItems.cons (qi2 fun X h=>K3 X (he.below (hB.trans (h.mono hB.size)))) trivial))))))))) ?_
       rintro W h1
       clear sq
       clear sa
       clear sb
       clear so
       clear sk
       clear sg
       clear sx
       clear sy
       clear sz
       replace hB:=hB.trans (h1.mono hB.size)
       replace rq:=Row.below rq h1
       replace ra:=Row.below ra h1
       replace rb:=Row.below rb h1
       replace ro:=Row.below ro h1
       replace rk:=Row.below rk h1
       replace rg:=Row.below rg h1
       replace rx:=Row.below rx h1
       replace ry:=Row.below ry h1
       replace rz:=Row.below rz h1
       clear h1
       have sq:=RF1 rq
       have sa:=RF5 ra
       have sb:=RF5 rb
       have so:=RFz2 ro
       have sk:=RFz2 rk
       have sg:=Fg _ rg
       have sx:=RF3 rx
       have sy:=RF2 ry
       have sz:=RF2 rz
       simp only [setItems,List.setIfInBounds_toArray,List.set_cons_succ,List.set_cons_zero,List.take_succ_cons,List.take_zero,List.drop_succ_cons,List.drop_zero]
       go_wp2
       go_roundw
       case rel=>exact ⟨j+1,by go_num,by omega,BW,RW8,RW8,RW8,RW8,RW8⟩
       case measure=>simp [RowKit.intOf];omega
    ·obtain rfl:m=j:=by omega
     clear sq
     clear sa
     clear sb
     clear so
     clear sk
     have sq:=RF1 rq
     have sa:=RF5 ra
     have sb:=RF5 rb
     have so:=RFz2 ro
     have sk:=RFz2 rk
     go_wp2_with fail
     have sB:=hB.size
     refine post_cut (fun X=>Below w.heap.size w X∧Row X w.heap.size (.cells #[.string (S (covTo a.t b.t ss m).num),.string (S ((covTo a.t b.t ss m).den:Int))] 23)) ⟨BW,RW8⟩ ?_
     clear rq
     clear sq
     clear ra
     clear sa
     clear rb
     clear sb
     clear ro
     clear so
     clear rk
     clear sk
     clear hB sB
     rintro V9 ⟨hB,ro⟩
     have so:=RFz2 ro
     refine bodyPost_ret (v := .agg #[.string (S (covTo a.t b.t ss m).num),.string (S ((covTo a.t b.t ss m).den:Int))]) ?res rfl ⟨covTo a.t b.t ss m,rfl,rfl,hB⟩
     case res=>simp [results,Tryz.results97, go_sem,so]
def CovRes (v:Rat) (w:World) (e:Ending) (w':World):Prop:=e = .returned (.tuple #[Q v,.int .i64 0])∧Below w.heap.size w w'
theorem acov {a b:Frm} {ss:List Trm} (h:CovF a.t b.t ss) (hv:SrcsOk ss) (hkn:KnownBy ss (a.t ++ b.t)) (oa:a.Ok) (ob:b.Ok) (da:FDig 200 a) (db:FDig 200 b) (pa:Option Addr) (ca:Nat) (pb:Option Addr) (cb:Nat) (ps:Option Addr) (cs_:Nat) (w:World) (hpa:TAt 62 w pa a.t) (hpb:TAt 62 w pb b.t) (hps:TAt 70 w ps ss) (he:Env w):Calls Tryz.prog 32 #[FV a pa ca,FV b pb cb,.slice ps ss.length cs_] w (CovRes (covTo a.t b.t ss ss.length) w):=by
 have hB:Below w.heap.size w w:=Below.refl _ _
 have HPa:=Lib.hid hpa
 have HPb:=Lib.hid hpb
 have HPs:=Lib.hid hps
 have CF:=fun s W (r:Row W s (.cells #[.string (S a.c.num),.string (S (a.c.den:Int)),.slice pa a.t.length ca,.string (S a.r.num),.string (S (a.r.den:Int)),.string (S b.c.num),.string (S (b.c.den:Int)),.slice pb b.t.length cb,.string (S b.r.num),.string (S (b.r.den:Int))] 58)) (h1:TAt 62 W pa a.t) (h2:TAt 62 W pb b.t) (H:Env W)=>fcontains2 166 (enters_of Tryz.func166 (by kernel_rfl) rfl) s a b pa pb ca cb W r (fun X hX=>arbad oa da pa ca X (UAt.below h1 hX) (H.below hX)) (fun X hX=>arbad ob db pb cb X (UAt.below h2 hX) (H.below hX))
 have CR:=fun bs ba bb W (rq:Row W bs (.cells #[.slice ps ss.length cs_] 71)) (ra:Row W ba (.cells #[.string (S a.c.num),.string (S (a.c.den:Int)),.slice pa a.t.length ca,.string (S a.r.num),.string (S (a.r.den:Int))] 58)) (rb:Row W bb (.cells #[.string (S b.c.num),.string (S (b.c.den:Int)),.slice pb b.t.length cb,.string (S b.r.num),.string (S (b.r.den:Int))] 58)) (h0:TAt 70 W ps ss) (h1:TAt 62 W pa a.t) (h2:TAt 62 W pb b.t) (H:Env W)=>acov1 h hv hkn oa ob oa.few ob.few ps cs_ pa ca pb cb bs ba bb W rq ra rb h0 h1 h2 H
 generalize covTo a.t b.t ss ss.length=v at *
 unfold CovRes
 unfold FV Q
 clear hpa hpb hps h hv hkn oa ob da db
 go_enter Tryz.func32, Tryz.ntmps32
 go_wp2_with fail
 have d0_o:w.heap.size≤w.heap.size+1+1+1:=by have:=hB.size;omega
 have sB:=hB.size
 refine world_cut (fun X=>Below w.heap.size w X∧Row X w.heap.size (.cells #[.string (S a.c.num),.string (S (a.c.den:Int)),.slice pa a.t.length ca,.string (S a.r.num),.string (S (a.r.den:Int))] 58)∧Row X (w.heap.size+1) (.cells #[.string (S b.c.num),.string (S (b.c.den:Int)),.slice pb b.t.length cb,.string (S b.r.num),.string (S (b.r.den:Int))] 58)∧Row X (w.heap.size+1+1) (.cells #[.slice ps ss.length cs_] 71)∧Row X (w.heap.size+1+1+1) (.cells #[.string ⟨#[]⟩,.string ⟨#[]⟩] 23)∧Row X (w.heap.size+1+1+1+1) (.cells #[.string (S a.c.num),.string (S (a.c.den:Int)),.slice pa a.t.length ca,.string (S a.r.num),.string (S (a.r.den:Int)),.string (S b.c.num),.string (S (b.c.den:Int)),.slice pb b.t.length cb,.string (S b.r.num),.string (S (b.r.den:Int))] 58)) ⟨BW,RW8,RW8,RW8,RW8,RW8⟩ ?_
 clear hB sB
 rintro V1 ⟨hB,ra,rb,rq,ro,rb4⟩
 have sa:=RF5 ra
 have sb:=RF5 rb
 have sq:=RF1 rq
 have so:=RFz2 ro
 have Fb4:∀ X,Row X (w.heap.size+1+1+1+1) (.cells #[.string (S a.c.num),.string (S (a.c.den:Int)),.slice pa a.t.length ca,.string (S a.r.num),.string (S (a.r.den:Int)),.string (S b.c.num),.string (S (b.c.den:Int)),.slice pb b.t.length cb,.string (S b.r.num),.string (S (b.r.den:Int))] 58)→(w.heap.size+1+1+1+1<X.heap.size∧X.cell? ⟨w.heap.size+1+1+1+1,0,none⟩=some (.string (S a.c.num))∧X.cell? ⟨w.heap.size+1+1+1+1,1,none⟩=some (.string (S (a.c.den:Int)))∧X.cell? ⟨w.heap.size+1+1+1+1,2,none⟩=some (.slice pa a.t.length ca)∧X.cell? ⟨w.heap.size+1+1+1+1,3,none⟩=some (.string (S a.r.num))∧X.cell? ⟨w.heap.size+1+1+1+1,4,none⟩=some (.string (S (a.r.den:Int)))∧X.cell? ⟨w.heap.size+1+1+1+1,5,none⟩=some (.string (S b.c.num))∧X.cell? ⟨w.heap.size+1+1+1+1,6,none⟩=some (.string (S (b.c.den:Int)))∧X.cell? ⟨w.heap.size+1+1+1+1,7,none⟩=some (.slice pb b.t.length cb)∧X.cell? ⟨w.heap.size+1+1+1+1,8,none⟩=some (.string (S b.r.num))∧X.cell? ⟨w.heap.size+1+1+1+1,9,none⟩=some (.string (S (b.r.den:Int)))):=fun X h=>⟨h.1,Row.cell_at h 0 rfl,Row.cell_at h 1 rfl,Row.cell_at h 2 rfl,Row.cell_at h 3 rfl,Row.cell_at h 4 rfl,Row.cell_at h 5 rfl,Row.cell_at h 6 rfl,Row.cell_at h 7 rfl,Row.cell_at h 8 rfl,Row.cell_at h 9 rfl⟩
 have sb4:=Fb4 _ rb4
 refine (arcompute_ok 97 _ _ _ (fun q=>v=q) _ (enters_of Tryz.func97 (by kernel_rfl) rfl) (fun X h=>CF _ _ (Row.below rb4 h) (UAt.below HPa.out (hB.trans (h.mono hB.size))) (UAt.below HPb.out (hB.trans (h.mono hB.size))) (he.below (hB.trans (h.mono hB.size)))) (fun X h=>CR _ _ _ _ (Row.below rq h) (Row.below ra h) (Row.below rb h) (UAt.below HPs.out (hB.trans (h.mono hB.size))) (UAt.below HPa.out (hB.trans (h.mono hB.size))) (UAt.below HPb.out (hB.trans (h.mono hB.size))) (he.below (hB.trans (h.mono hB.size))))).mono ?_
 rintro e W2 ⟨_,rfl,rfl,h1⟩
 have stp:=St5 hB h1 ra rb rq ro rb4;clear hB h1 ra sa rb sb rq sq ro so rb4 sb4
 obtain ⟨hB,ra,rb,rq,ro,rb4⟩:=stp
 have sa:=RF5 ra
 have sb:=RF5 rb
 have sq:=RF1 rq
 have so:=RFz2 ro
 have sb4:=Fb4 _ rb4
 unfold Q
 go_wp2_with fail
 clear Fb4
 have sB:=hB.size
 refine post_cut (fun X=>Below w.heap.size w X∧Row X (w.heap.size+1+1+1) (.cells #[.string (S v.num),.string (S (v.den:Int))] 23)) ⟨BW,RW8⟩ ?_
 clear ra
 clear sa
 clear rb
 clear sb
 clear rq
 clear sq
 clear ro
 clear so
 clear rb4
 clear sb4
 clear hB sB
 rintro V3 ⟨hB,ro⟩
 have so:=RFz2 ro
 refine bodyPost_ret (v := .tuple #[.agg #[.string (S v.num),.string (S (v.den:Int))],.int .i64 0]) ?res rfl ⟨rfl,hB⟩
 case res=>simp [results,Tryz.results32, go_sem,so]
end Go.Proofs.YtnokpldomlmamaaGreatDoor
