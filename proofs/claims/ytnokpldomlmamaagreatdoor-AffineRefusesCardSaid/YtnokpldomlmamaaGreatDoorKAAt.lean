/-
 Package affine: At, at valid forms and values, where nothing is too large.
-/
import Derived.Test.YtnokpldomlmamaaGreatDoorKAMade
set_option linter.unusedSimpArgs false
set_option linter.unusedVariables false
set_option maxRecDepth 100000
set_option maxHeartbeats 16000000
namespace Go.Proofs.YtnokpldomlmamaaGreatDoor
open Go Go.RowKit Go.Lib Go.Shelf
attribute [local go_sem] normalQ
/-- Values of sources are valid. -/
structure ValsOk (vs:List Trm):Prop where
 few:vs.length≤64
 src:SrcOk vs
 unit:Unit1 vs
 dig:∀ p,p ∈ vs→QDig 200 p.c
/-- What a form can be, given values, is not too large. -/
structure AtF (f:Frm) (vs:List Trm):Prop where
 mul:∀ k,k<f.t.length→∀ v,look vs (trD f.t k).s=some v→MF (trD f.t k).c v
 add:∀ k,k<f.t.length→∀ v,look vs (trD f.t k).s=some v→AF (midTo vs f.c f.t k) ((trD f.t k).c * v)
 rad:RadF ⟨0,others vs f.t,f.r⟩
 lo:SF (midTo vs f.c f.t f.t.length) (Proofs.YtnokpldomlmamaaGreatDoor.rad ⟨0,others vs f.t,f.r⟩)
 hi:AF (midTo vs f.c f.t f.t.length) (Proofs.YtnokpldomlmamaaGreatDoor.rad ⟨0,others vs f.t,f.r⟩)
theorem mid_some {vs l:List Trm} {c v:Rat} {k:Nat} (h:look vs (trD l k).s=some v):midTo vs c l (k+1)=midTo vs c l k+(trD l k).c * v:=by
 show (match look vs (trD l k).s with | some v=>_ | none=>_)=_;rw [h]
theorem mid_none {vs l:List Trm} {c:Rat} {k:Nat} (h:look vs (trD l k).s=none):midTo vs c l (k+1)=midTo vs c l k:=by
 show (match look vs (trD l k).s with | some v=>_ | none=>_)=_;rw [h]
theorem others_some {vs l:List Trm} {v:Rat} {k:Nat} (hk:k<l.length) (h:look vs (trD l k).s=some v):others vs (l.take (k+1))=others vs (l.take k):=by
 rw [others_take hk,h,if_neg (by simp)]
theorem others_none {vs l:List Trm} {k:Nat} (hk:k<l.length) (h:look vs (trD l k).s=none):others vs (l.take (k+1))=others vs (l.take k) ++ [trD l k]:=by
 rw [others_take hk,h,if_pos rfl]
theorem others_len (vs l:List Trm):(others vs l).length≤l.length:=by unfold others;exact List.length_filter_le _ _
theorem bet_unit {vs:List Trm} (h:Unit1 vs):∀ i,i<vs.length→betB (-1) 1 (some (trD vs i).c)=true:=fun i hi=>by
 have:=h _ (trD_mem hi)
 show (decide (-1≤(trD vs i).c) && decide ((trD vs i).c≤1))=true
 rw [decide_eq_true this.1,decide_eq_true this.2];rfl
theorem le_below {n:Nat} {W W':World} (h:n≤W.heap.size) (hB:Below W.heap.size W W'):n≤W'.heap.size:=Nat.le_trans h hB.size
theorem aat1 {f:Frm} {vs:List Trm} (h:AtF f vs) (hv:ValsOk vs) (hlen:f.t.length≤100000) (pf:Option Addr) (cq:Nat) (pv:Option Addr) (cv:Nat) (bv bf:Nat) (w:World) (rv:Row w bv (.cells #[.slice pv vs.length cv] 56)) (rf:Row w bf (.cells #[.string (S f.c.num),.string (S (f.c.den:Int)),.slice pf f.t.length cq,.string (S f.r.num),.string (S (f.r.den:Int))] 58)) (hpf:TAt 62 w pf f.t) (hpv:TAt 62 w pv vs) (he:Env w):Calls Tryz.prog 88 #[.pointer (some ⟨bv,0,none⟩),.pointer (some ⟨bf,0,none⟩)] w (avIs (fun a=>atI f vs=a) w):=by
 have hB:Below w.heap.size w w:=Below.refl _ _
 have HPf:=Lib.hid hpf
 have HPv:=Lib.hid hpv
 have FN:=fnum
 obtain ⟨n,hn⟩:=form_len f
 obtain ⟨m,hm⟩:∃ m,vs.length=m:=⟨_,rfl⟩
 have hm64:m≤64:=hm ▸ hv.few
 have hmI:(m:Int)≤64:=by omega
 have hmI2:¬ (64:Int)<(m:Int):=by omega
 have MA:=fun W (h1:TAt 62 W pv vs)=>aare pv m cv (l:=raws vs) (by rw [raws_length];exact hm) (by omega) W h1
 rw [decide_eq_true (srcU_of hv.src)] at MA
 have MW:=fun W (h1:TAt 62 W pv vs) (H:Env W)=>tcontains (l:=raws vs) (fun _=>false) 89 (enters_of Tryz.func89 (by kernel_rfl) rfl) pv m cv (by rw [raws_length];exact hm) (by omega) W h1 (fun i hi X hX=>by have hi2:i<vs.length:=(by omega);have h9:=avalue (uD (raws vs) i) (o:=some (trD vs i).c) (by rw [raws_at hi2];exact RK.of (hv.dig _ (trD_mem hi2))) X (H.below hX);rw [bet_unit hv.unit i hi2] at h9;exact h9)
 rw [decide_eq_false (by simp)] at MW
 have MF_:=fun id W (h1:TAt 62 W pv vs) (H:Env W)=>afind hv.src id pv m cv hm (by omega) W h1 H
 have MM:=fun k (hk:k<f.t.length) v (hl:look vs (trD f.t k).s=some v) W (H:Env W)=>nmul (h.mul k hk v hl) W H
 have MS:=fun k (hk:k<f.t.length) v (hl:look vs (trD f.t k).s=some v) W (H:Env W)=>nadd (h.add k hk v hl) W H
 have hol:=others_len vs
 have MR:=fun po co W (h1:TAt 62 W po (others vs f.t)) (H:Env W)=>aradius h.rad (Nat.le_trans (hol f.t) (by omega)) ⟨#[]⟩ ⟨#[]⟩ po co W h1 H
 have MI:=fun W (H:Env W)=>aaround h.lo h.hi W H
 have HT:=Lib.hid (rfl:f.t.take f.t.length=f.t.take f.t.length)
 unfold BoolOk at MA MW
 unfold FindIs at MF_
 unfold QIs at MM MS MR
 unfold IvIs I at MI
 unfold avIs I atI
 dsimp only at MR
 generalize rad ⟨0,others vs f.t,f.r⟩=rd at *
 generalize hlo:midTo vs f.c f.t f.t.length - rd=xl at *
 generalize hhi:midTo vs f.c f.t f.t.length+rd=xh at *
 unfold Q at *
 rw [hn] at MM MS MI hlen rf
 rw [hm] at rv
 have hnI:(n:Int)≤100000:=by omega
 have HN:=Lib.hid hn
 clear hlo hhi hpf hpv h hv hn hm HT
 have E0:Hid (midTo vs f.c f.t 0=f.c):=Lib.hid rfl
 have sv:=RF1 rv
 have sf:=RF5 rf
 go_enter Tryz.func88, Tryz.ntmps88
 go_wp2_with fail
 have dv_o:bv<w.heap.size:=by omega
 have df_o:bf<w.heap.size:=by omega
 have d0_o:w.heap.size≤w.heap.size:=by have:=hB.size;omega
 have sB:=hB.size
 refine world_cut (fun X=>Below w.heap.size w X∧Row X bv (.cells #[.slice pv m cv] 56)∧Row X bf (.cells #[.string (S f.c.num),.string (S (f.c.den:Int)),.slice pf n cq,.string (S f.r.num),.string (S (f.r.den:Int))] 58)∧Row X w.heap.size (.cells #[.string ⟨#[]⟩,.string ⟨#[]⟩,.string ⟨#[]⟩,.string ⟨#[]⟩] 30)) ⟨BW,RW8,RW8,RW8⟩ ?_
 clear rv
 clear sv
 clear rf
 clear sf
 clear hB sB
 rintro V1 ⟨hB,rv,rf,ro⟩
 have sv:=RF1 rv
 have sf:=RF5 rf
 have so:=RFz4 ro
 refine (MA _ (UAt.below HPv.out hB)).mono ?_
 rintro e W2 ⟨rfl,h1⟩
 have stp:=St3 hB h1 rv rf ro;clear hB h1 rv sv rf sf ro so
 obtain ⟨hB,rv,rf,ro⟩:=stp
 have sv:=RF1 rv
 have sf:=RF5 rf
 have so:=RFz4 ro
 go_wp2_with fail
 refine (MW _ (UAt.below HPv.out hB) (he.below hB)).mono ?_
 rintro e W3 ⟨rfl,h1⟩
 have stp:=St3 hB h1 rv rf ro;clear hB h1 rv sv rf sf ro so
 obtain ⟨hB,rv,rf,ro⟩:=stp
 have sv:=RF1 rv
 have sf:=RF5 rf
 have so:=RFz4 ro
 go_wp2_with fail
 refine (acheck_true _).mono ?_
 rintro e W4 ⟨rfl,h1⟩
 have stp:=St3 hB h1 rv rf ro;clear hB h1 rv sv rf sf ro so
 obtain ⟨hB,rv,rf,ro⟩:=stp
 have sv:=RF1 rv
 have sf:=RF5 rf
 have so:=RFz4 ro
 go_upto_region 3 with fail
 have l_v:=rv.1
 have l_f:=rf.1
 have l_o:=ro.1
 have l_W:=hB.size
 refine Code.wp_mono (Q:=fun ex ac wx=>ex = .normal∧∃ (vmi vot:Nat) (u10 u11 u12 u13 u14 u15 u16 u17 u18 u19 u20 u21 u22 u23 u24 u25 u26 u27 u28 u29:Value),ac={ tmps:=#[.pointer (some ⟨bv,0,none⟩),.pointer (some ⟨bf,0,none⟩),.pointer (some ⟨w.heap.size,0,none⟩),.func (.func 89) #[] #[],.pointer (some ⟨vmi,0,none⟩),.pointer (some ⟨vot,0,none⟩),undef,undef,undef,undef,u10,u11,u12,u13,u14,u15,u16,u17,u18,u19,u20,u21,u22,u23,u24,u25,u26,u27,u28,u29,undef,undef,undef,undef,undef,undef,undef,undef,undef,undef,undef,undef,undef,undef,undef,undef,undef,undef,undef,undef,undef,undef,undef,undef,undef,undef,undef,undef,undef,undef,undef,undef,undef],defers:=[] }∧Below w.heap.size w wx∧Row wx bv (.cells #[.slice pv m cv] 56)∧Row wx bf (.cells #[.string (S f.c.num),.string (S (f.c.den:Int)),.slice pf n cq,.string (S f.r.num),.string (S (f.r.den:Int))] 58)∧Row wx w.heap.size (.cells #[.string ⟨#[]⟩,.string ⟨#[]⟩,.string ⟨#[]⟩,.string ⟨#[]⟩] 30)∧Row wx vmi (.cells #[.string (S f.c.num),.string (S (f.c.den:Int))] 112)∧W4.heap.size≤vmi∧Row wx vot (.cells #[.string ⟨#[]⟩,.string ⟨#[]⟩,.slice none 0 0,.string (S f.r.num),.string (S (f.r.den:Int))] 58)∧W4.heap.size≤vot∧vmi≠vot) ?rest ?first
 case first =>
  have sB:=hB.size
  have KK:∀ X,Row X bf (.cells #[.string (S f.c.num),.string (S (f.c.den:Int)),.slice pf n cq,.string (S f.r.num),.string (S (f.r.den:Int))] 58)→(X.cell? ⟨bf,0,none⟩=some (.string (S f.c.num))∧X.cell? ⟨bf,1,none⟩=some (.string (S (f.c.den:Int)))∧X.cell? ⟨bf,3,none⟩=some (.string (S f.r.num))∧X.cell? ⟨bf,4,none⟩=some (.string (S (f.r.den:Int)))):=fun X hf=>⟨Row.cell_at hf 0 rfl,Row.cell_at hf 1 rfl,Row.cell_at hf 3 rfl,Row.cell_at hf 4 rfl⟩
  clear sv
  clear sf
  clear so
  go_region_held3 (fun X=>X.cell? ⟨bf,0,none⟩=some (.string (S f.c.num))∧X.cell? ⟨bf,1,none⟩=some (.string (S (f.c.den:Int)))∧X.cell? ⟨bf,3,none⟩=some (.string (S f.r.num))∧X.cell? ⟨bf,4,none⟩=some (.string (S (f.r.den:Int)))) (first | exact KK _ RW8) (first
      | fail)
  all_goals (refine ⟨rfl,_,_,_,_,_,_,_,_,_,_,_,_,_,_,_,_,_,_,_,_,_,_,rfl,?_,?_,?_,?_,?_,?_,?_,?_,?_⟩)
  all_goals first | omega | ((repeat (first | (with_reducible assumption) | (with_reducible exact Below.refl _ _) | (with_reducible refine Below.drew ?_) | (with_reducible refine below_drewN ?_ _) | (with_reducible refine Below.alloc ?_ (by first | omega | (simp;done) | (simp;omega)) _) | (with_reducible refine Below.setCell ?_ (by first | omega | (simp;done) | (simp;omega)) _)));done) | ((repeat (first | (with_reducible assumption) | (with_reducible exact row_new' (by first | omega | (simp;done) | (simp;omega))) | (with_reducible refine Row.drew ?_) | (with_reducible refine Row.drewN ?_ _) | (with_reducible refine Row.alloc ?_ _) | (with_reducible apply Row.set5) | (with_reducible apply Row.set2) | (with_reducible refine Row.set_other ?_ _ (by first | omega | (simp;done) | (simp;omega)))));done) | (simp;done) | (simp;omega)
 case rest =>
  clear hB rv rf ro
  clear sv
  clear sf
  clear so
  rintro ex ac wx ⟨rfl,vmi,vot,u10,u11,u12,u13,u14,u15,u16,u17,u18,u19,u20,u21,u22,u23,u24,u25,u26,u27,u28,u29,rfl,hB,rv,rf,ro,rmi,hvmi,rot,hvot,nmi_ot⟩
  have dv_mi:bv<vmi:=by omega
  have dv_ot:bv<vot:=by omega
  have df_mi:bf<vmi:=by omega
  have df_ot:bf<vot:=by omega
  have do_mi:w.heap.size<vmi:=by omega
  have do_ot:w.heap.size<vot:=by omega
  have d0_mi:w.heap.size≤vmi:=by omega
  have d0_ot:w.heap.size≤vot:=by omega
  have sv:=RF1 rv
  have sf:=RF5 rf
  have so:=RFz4 ro
  have smi:=RFz2 rmi
  have sot:=RFz5 rot
  go_wp2_with fail
  obtain ⟨n0,hn0e⟩:∃ n0,n0=wx.heap.size:=⟨_,rfl⟩
  have hbo:vot<n0:=by have:=rot.1;omega
  have hbm:vmi<n0:=by have:=rmi.1;omega
  have hbf:bf<n0:=by have:=rf.1;omega
  have hbv:bv<n0:=by have:=rv.1;omega
  have hb0:w.heap.size<n0:=by have:=ro.1;omega
  have hn0:n0≤wx.heap.size:=by omega
  clear hn0e
  rw [← E0.out] at rmi
  clear sv
  clear sf
  clear so
  clear smi
  clear sot
  go_loopw [33] (fun v33 wr=>∃ (i:Nat) (po:Option Addr) (co:Nat),v33 = .int .i64 (i:Int)∧i≤n∧OT wr n0 po co (others vs (f.t.take i))∧n0≤wr.heap.size∧Below w.heap.size w wr∧Row wr bv (.cells #[.slice pv m cv] 56)∧Row wr bf (.cells #[.string (S f.c.num),.string (S (f.c.den:Int)),.slice pf n cq,.string (S f.r.num),.string (S (f.r.den:Int))] 58)∧Row wr w.heap.size (.cells #[.string ⟨#[]⟩,.string ⟨#[]⟩,.string ⟨#[]⟩,.string ⟨#[]⟩] 30)∧Row wr vmi (.cells #[.string (S (midTo vs f.c f.t i).num),.string (S ((midTo vs f.c f.t i).den:Int))] 112)∧Row wr vot (.cells #[.string ⟨#[]⟩,.string ⟨#[]⟩,.slice po (others vs (f.t.take i)).length co,.string (S f.r.num),.string (S (f.r.den:Int))] 58)) (fun v33 _=>(n - RowKit.intOf v33).toNat)
  case atStart=>exact ⟨0,none,0,rfl,by omega,OT.nil _ _,hn0,hB,rv,rf,ro,rmi,rot⟩
  case round =>
   clear hB rv rf ro rmi rot hn0
   obtain ⟨i,po,co,rfl,hin,hown,hn0,hB,rv,rf,ro,rmi,rot⟩:=hrel
   have sv:=RF1 rv
   have sf:=RF5 rf
   have so:=RFz4 ro
   have smi:=RFz2 rmi
   have sot:=RFz5 rot
   rcases Nat.lt_or_ge i n with hlt | hge
   ·have hlt':i<f.t.length:=by rw [HN.out];exact hlt
    have hlI:(i:Int)<(n:Int):=by omega
    have MM:=MM i hlt
    have MS:=MS i hlt
    have e1:=@others_some vs f.t
    have hoi:(others vs (f.t.take i)).length≤100000:=by have:=hol (f.t.take i);rw [List.length_take] at this;omega
    obtain ⟨t,ht⟩:∃ t,t=trD f.t i:=⟨_,rfl⟩
    have HTI:=Lib.hid ht
    rw [← ht] at MM MS
    have MF_:=MF_ t.s
    have hlt2:=hlt'
    clear e1
    obtain ⟨g,gcur,rfl,rg,g0,g1,g2⟩:=TAt.at (UAt.below HPf.out hB) hlt2
    rw [← ht] at g0 g1 g2
    clear ht
    have Fg:∀ X,Row X g (.cells gcur 62)→(g<X.heap.size∧X.cell? ⟨g,i * 3,none⟩=some (.int .i64 (t.s:Int))∧X.cell? ⟨g,i * 3+1,none⟩=some (.string (S t.c.num))∧X.cell? ⟨g,i * 3+2,none⟩=some (.string (S (t.c.den:Int)))):=fun X h=>⟨h.1,Row.cell_at h _ g0,Row.cell_at h _ g1,Row.cell_at h _ g2⟩
    have sg:=Fg _ rg
    cases hk:look vs t.s with
    | none =>
     have e2:(look vs t.s).isSome=false:=by rw [hk];rfl
     rw [e2] at MF_
     have hk2:look vs (trD f.t i).s=none:=by rw [← HTI.out];exact hk
     have E1:=Lib.hid (mid_none (c:=f.c) hk2)
     have E2:Hid (others vs (f.t.take (i+1))=(others vs (f.t.take i)) ++ [t]):=Lib.hid (by rw [HTI.out];exact others_none hlt' hk2)
     clear hk hk2 e2 hlt2 MM MS
     generalize cf vs t.s=v at *
     generalize hoo:others vs (f.t.take i)=o at *
     have HOO:=Lib.hid hoo
     clear hoo
     go_wp2_with fail
     have do_t:w.heap.size<wr.heap.size:=by omega
     have dmi_t:vmi<wr.heap.size:=by omega
     have dot_t:vot<wr.heap.size:=by omega
     have sB:=hB.size
     refine world_cut (fun X=>Below w.heap.size w X∧Row X bv (.cells #[.slice pv m cv] 56)∧Row X bf (.cells #[.string (S f.c.num),.string (S (f.c.den:Int)),.slice (some ⟨g,0,none⟩) n cq,.string (S f.r.num),.string (S (f.r.den:Int))] 58)∧Row X w.heap.size (.cells #[.string ⟨#[]⟩,.string ⟨#[]⟩,.string ⟨#[]⟩,.string ⟨#[]⟩] 30)∧Row X vmi (.cells #[.string (S (midTo vs f.c f.t i).num),.string (S ((midTo vs f.c f.t i).den:Int))] 112)∧Row X vot (.cells #[.string ⟨#[]⟩,.string ⟨#[]⟩,.slice po o.length co,.string (S f.r.num),.string (S (f.r.den:Int))] 58)∧Row X g (.cells gcur 62)∧Row X wr.heap.size (.cells #[.int .i64 (t.s:Int),.string (S t.c.num),.string (S (t.c.den:Int))] 62)∧OT X n0 po co o∧n0≤X.heap.size) ⟨BW,RW8,RW8,RW8,RW8,RW8,RW8,RW8,OW,(by first | omega | (simp;omega))⟩ ?_
     clear rv
     clear sv
     clear rf
     clear sf
     clear ro
     clear so
     clear rmi
     clear smi
     clear rot
     clear sot
     clear rg
     clear sg
     clear hB sB hown hn0
     rintro V6 ⟨hB,rv,rf,ro,rmi,rot,rg,rt,hown,hn0⟩
     have sv:=RF1 rv
     have sf:=RF5 rf
     have so:=RFz4 ro
     have smi:=RFz2 rmi
     have sot:=RFz5 rot
     have sg:=Fg _ rg
     have st:=RF3 rt
     refine (MF_ _ (UAt.below HPv.out hB) (he.below hB)).mono ?_
     rintro e W7 ⟨rfl,h1⟩
     replace hown:=OT.later hown h1
     replace hn0:=le_below hn0 h1
     have stp:=St7 hB h1 rv rf ro rmi rot rg rt;clear hB h1 rv sv rf sf ro so rmi smi rot sot rg sg rt st
     obtain ⟨hB,rv,rf,ro,rmi,rot,rg,rt⟩:=stp
     have sv:=RF1 rv
     have sf:=RF5 rf
     have so:=RFz4 ro
     have smi:=RFz2 rmi
     have sot:=RFz5 rot
     have sg:=Fg _ rg
     have st:=RF3 rt
     go_upto_region 10 with fail
     have do_w:w.heap.size<W7.heap.size:=by omega
     have dmi_w:vmi<W7.heap.size:=by omega
     have dot_w:vot<W7.heap.size:=by omega
     have sB:=hB.size
     refine wp_cut (fun X=>Below w.heap.size w X∧Row X bv (.cells #[.slice pv m cv] 56)∧Row X bf (.cells #[.string (S f.c.num),.string (S (f.c.den:Int)),.slice (some ⟨g,0,none⟩) n cq,.string (S f.r.num),.string (S (f.r.den:Int))] 58)∧Row X w.heap.size (.cells #[.string ⟨#[]⟩,.string ⟨#[]⟩,.string ⟨#[]⟩,.string ⟨#[]⟩] 30)∧Row X vmi (.cells #[.string (S (midTo vs f.c f.t i).num),.string (S ((midTo vs f.c f.t i).den:Int))] 112)∧Row X vot (.cells #[.string ⟨#[]⟩,.string ⟨#[]⟩,.slice po o.length co,.string (S f.r.num),.string (S (f.r.den:Int))] 58)∧Row X g (.cells gcur 62)∧Row X wr.heap.size (.cells #[.int .i64 (t.s:Int),.string (S t.c.num),.string (S (t.c.den:Int))] 62)∧Row X W7.heap.size (.cells #[.string (S v.num),.string (S (v.den:Int))] 112)∧OT X n0 po co o∧n0≤X.heap.size) ⟨BW,RW8,RW8,RW8,RW8,RW8,RW8,RW8,RW8,OW,(by first | omega | (simp;omega))⟩ ?_
     clear rv
     clear sv
     clear rf
     clear sf
     clear ro
     clear so
     clear rmi
     clear smi
     clear rot
     clear sot
     clear rg
     clear sg
     clear rt
     clear st
     clear hB sB hown hn0
     rintro V8 ⟨hB,rv,rf,ro,rmi,rot,rg,rt,rw,hown,hn0⟩
     have sv:=RF1 rv
     have sf:=RF5 rf
     have so:=RFz4 ro
     have smi:=RFz2 rmi
     have sot:=RFz5 rot
     have sg:=Fg _ rg
     have st:=RF3 rt
     have sw:=RF2 rw
     go_wp2_with (at_builtin;refine wpl_append_term rfl (.tmp 53) (.tmp 55) rfl n0 po co o t rfl (World.ownsRow.alloc hown _) _ rfl (row_new _ _) hoi (by simp;omega) ?_;intro p' c' W7 hown' hg';replace rv:=own_row_ne (World.ownsRow.alloc hown _) hg' (Row.alloc rv _) (by omega);replace rf:=own_row_ne (World.ownsRow.alloc hown _) hg' (Row.alloc rf _) (by omega);replace ro:=own_row_ne (World.ownsRow.alloc hown _) hg' (Row.alloc ro _) (by omega);replace rmi:=own_row_ne (World.ownsRow.alloc hown _) hg' (Row.alloc rmi _) (by omega);replace rot:=own_row_ne (World.ownsRow.alloc hown _) hg' (Row.alloc rot _) (by omega);replace hB:=Below.grown (hB.alloc hB.size _) hg' (by simp;have:=hB.size;omega) (fun k hk=>by have:=(World.ownsRow.lt hown k hk).1;omega);have hn7:n0≤W7.heap.size:=Nat.le_trans (by simp;omega) hg'.size;clear hg' hn0 hown;have sot:=RFz5 rot)
     have hown:=hown'
     clear hown'
     go_wp2
     go_roundw
     case rel=>exact ⟨i+1,p',c',by go_num,by omega,by rw [E2.out];exact own_other hown rot form_ne 2 _,(by simp;omega),BW,RW8,RW8,RW8,by rw [E1.out];exact RW8,by rw [E2.out];simp only [List.length_append,List.length_cons,List.length_nil,Nat.zero_add];exact RW8⟩
     case measure=>simp [RowKit.intOf];omega
    | some v =>
     have MM:=MM v hk
     have MS:=MS v hk
     have e2:cf vs t.s=v:=by unfold cf;rw [hk];rfl
     rw [hk,e2] at MF_
     have hk2:look vs (trD f.t i).s=some v:=by rw [← HTI.out];exact hk
     have E1:Hid (midTo vs f.c f.t (i+1)=midTo vs f.c f.t i+t.c * v):=Lib.hid (by rw [HTI.out];exact mid_some hk2)
     have E2:=Lib.hid (others_some hlt' hk2)
     clear hk hk2 e2 hlt2
     simp only [Option.isSome_some] at MF_
     rw [← E1.out] at MS
     generalize t.c * v=y at *
     go_wp2_with fail
     have do_t:w.heap.size<wr.heap.size:=by omega
     have dmi_t:vmi<wr.heap.size:=by omega
     have dot_t:vot<wr.heap.size:=by omega
     have sB:=hB.size
     refine world_cut (fun X=>Below w.heap.size w X∧Row X bv (.cells #[.slice pv m cv] 56)∧Row X bf (.cells #[.string (S f.c.num),.string (S (f.c.den:Int)),.slice (some ⟨g,0,none⟩) n cq,.string (S f.r.num),.string (S (f.r.den:Int))] 58)∧Row X w.heap.size (.cells #[.string ⟨#[]⟩,.string ⟨#[]⟩,.string ⟨#[]⟩,.string ⟨#[]⟩] 30)∧Row X vmi (.cells #[.string (S (midTo vs f.c f.t i).num),.string (S ((midTo vs f.c f.t i).den:Int))] 112)∧Row X vot (.cells #[.string ⟨#[]⟩,.string ⟨#[]⟩,.slice po (others vs (f.t.take i)).length co,.string (S f.r.num),.string (S (f.r.den:Int))] 58)∧Row X g (.cells gcur 62)∧Row X wr.heap.size (.cells #[.int .i64 (t.s:Int),.string (S t.c.num),.string (S (t.c.den:Int))] 62)∧OT X n0 po co (others vs (f.t.take i))∧n0≤X.heap.size) ⟨BW,RW8,RW8,RW8,RW8,RW8,RW8,RW8,OW,(by first | omega | (simp;omega))⟩ ?_
     clear rv
     clear sv
     clear rf
     clear sf
     clear ro
     clear so
     clear rmi
     clear smi
     clear rot
     clear sot
     clear rg
     clear sg
     clear hB sB hown hn0
     rintro V6 ⟨hB,rv,rf,ro,rmi,rot,rg,rt,hown,hn0⟩
     have sv:=RF1 rv
     have sf:=RF5 rf
     have so:=RFz4 ro
     have smi:=RFz2 rmi
     have sot:=RFz5 rot
     have sg:=Fg _ rg
     have st:=RF3 rt
     refine (MF_ _ (UAt.below HPv.out hB) (he.below hB)).mono ?_
     rintro e W7 ⟨rfl,h1⟩
     replace hown:=OT.later hown h1
     replace hn0:=le_below hn0 h1
     have stp:=St7 hB h1 rv rf ro rmi rot rg rt;clear hB h1 rv sv rf sf ro so rmi smi rot sot rg sg rt st
     obtain ⟨hB,rv,rf,ro,rmi,rot,rg,rt⟩:=stp
     have sv:=RF1 rv
     have sf:=RF5 rf
     have so:=RFz4 ro
     have smi:=RFz2 rmi
     have sot:=RFz5 rot
     have sg:=Fg _ rg
     have st:=RF3 rt
     go_wp2_with fail
     have do_w:w.heap.size<W7.heap.size:=by omega
     have dmi_w:vmi<W7.heap.size:=by omega
     have dot_w:vot<W7.heap.size:=by omega
     have sB:=hB.size
     refine wp_cut (fun X=>Below w.heap.size w X∧Row X bv (.cells #[.slice pv m cv] 56)∧Row X bf (.cells #[.string (S f.c.num),.string (S (f.c.den:Int)),.slice (some ⟨g,0,none⟩) n cq,.string (S f.r.num),.string (S (f.r.den:Int))] 58)∧Row X w.heap.size (.cells #[.string ⟨#[]⟩,.string ⟨#[]⟩,.string ⟨#[]⟩,.string ⟨#[]⟩] 30)∧Row X vmi (.cells #[.string (S (midTo vs f.c f.t i).num),.string (S ((midTo vs f.c f.t i).den:Int))] 112)∧Row X vot (.cells #[.string ⟨#[]⟩,.string ⟨#[]⟩,.slice po (others vs (f.t.take i)).length co,.string (S f.r.num),.string (S (f.r.den:Int))] 58)∧Row X g (.cells gcur 62)∧Row X wr.heap.size (.cells #[.int .i64 (t.s:Int),.string (S t.c.num),.string (S (t.c.den:Int))] 62)∧Row X W7.heap.size (.cells #[.string (S v.num),.string (S (v.den:Int))] 112)∧OT X n0 po co (others vs (f.t.take i))∧n0≤X.heap.size) ⟨BW,RW8,RW8,RW8,RW8,RW8,RW8,RW8,RW8,OW,(by first | omega | (simp;omega))⟩ ?_
     clear rv
     clear sv
     clear rf
     clear sf
     clear ro
     clear so
     clear rmi
     clear smi
     clear rot
     clear sot
     clear rg
     clear sg
     clear rt
     clear st
     clear hB sB hown hn0
     rintro V8 ⟨hB,rv,rf,ro,rmi,rot,rg,rt,rw,hown,hn0⟩
     have sv:=RF1 rv
     have sf:=RF5 rf
     have so:=RFz4 ro
     have smi:=RFz2 rmi
     have sot:=RFz5 rot
     have sg:=Fg _ rg
     have st:=RF3 rt
     have sw:=RF2 rw
     refine wp_region_items 7 [.val (.agg #[.string (S (midTo vs f.c f.t i).num),.string (S ((midTo vs f.c f.t i).den:Int))]),.val (.pointer (some ⟨wr.heap.size,1,none⟩)),.val (.agg #[.string (S t.c.num),.string (S (t.c.den:Int))]),.val (.agg #[.string (S t.c.num),.string (S (t.c.den:Int))]),.val (.agg #[.string (S v.num),.string (S (v.den:Int))]),.val (.agg #[.string (S y.num),.string (S (y.den:Int))]),.val (.agg #[.string (S (midTo vs f.c f.t (i+1)).num),.string (S ((midTo vs f.c f.t (i+1)).den:Int))])] (by kernel_rfl) (by kernel_rfl) trivial (allItems.cons (qi1 fun X h=>RFz2 (Row.below rmi h)) (allItems.cons qi0 (allItems.cons (qi1 fun X h=>RF3 (Row.below rt h)) (allItems.cons qi0 (allItems.cons (qi1 fun X h=>RF2 (Row.below rw h)) (allItems.cons (qi2 fun X h=>MM X (he.below (hB.trans (h.mono hB.size)))) (allItems.cons (qi2 fun X h=>MS X (he.below (hB.trans (h.mono hB.size)))) trivial))))))) ?_
     rintro W h1
     replace hown:=OT.later hown h1
     replace hn0:=le_below hn0 h1
     have stp:=St8 hB h1 rv rf ro rmi rot rg rt rw;clear hB h1 rv sv rf sf ro so rmi smi rot sot rg sg rt st rw sw
     obtain ⟨hB,rv,rf,ro,rmi,rot,rg,rt,rw⟩:=stp
     have sv:=RF1 rv
     have sf:=RF5 rf
     have so:=RFz4 ro
     have smi:=RFz2 rmi
     have sot:=RFz5 rot
     have sg:=Fg _ rg
     have st:=RF3 rt
     have sw:=RF2 rw
     simp only [setItems,List.setIfInBounds_toArray,List.set_cons_succ,List.set_cons_zero,List.take_succ_cons,List.take_zero,List.drop_succ_cons,List.drop_zero]
     go_wp2
     go_roundw
     case rel=>exact ⟨i+1,po,co,by go_num,by omega,by rw [E2.out];exact OW,(by first | omega | (simp;omega)),BW,RW8,RW8,RW8,RW8,by rw [E2.out];exact RW8⟩
     case measure=>simp [RowKit.intOf];omega
   ·obtain rfl:n=i:=by omega
    have hall:f.t.take n=f.t:=by rw [← HN.out];exact List.take_length
    rw [hall] at hown rot
    clear hall MM MS MF_
    clear sv
    clear sf
    clear so
    clear smi
    clear sot
    have sv:=RF1 rv
    have sf:=RF5 rf
    have so:=RFz4 ro
    have smi:=RFz2 rmi
    have sot:=RFz5 rot
    have MR:=MR po co
    go_wp2_with fail
    clear rv
    clear sv
    clear rf
    clear sf
    refine wp_region_items 4 [.val (.agg #[.string (S (midTo vs f.c f.t n).num),.string (S ((midTo vs f.c f.t n).den:Int))]),.val (.agg #[.string ⟨#[]⟩,.string ⟨#[]⟩,.slice po (others vs f.t).length co,.string (S f.r.num),.string (S (f.r.den:Int))]),.val (.agg #[.string (S rd.num),.string (S (rd.den:Int))]),.val (.agg #[.string (S xl.num),.string (S (xl.den:Int)),.string (S xh.num),.string (S (xh.den:Int))])] (by kernel_rfl) (by kernel_rfl) trivial (allItems.cons (qi1 fun X h=>RFz2 (Row.below rmi h)) (allItems.cons (qi1 fun X h=>RFz5 (Row.below rot h)) (allItems.cons (qi2 fun X h=>MR X (UAt.below (OT.tat hown) h) (he.below (hB.trans (h.mono hB.size)))) (allItems.cons (qi2 fun X h=>MI X (he.below (hB.trans (h.mono hB.size)))) trivial)))) ?_
    rintro W h1
    replace hown:=OT.later hown h1
    have stp:=St3 hB h1 ro rmi rot;clear hB h1 ro so rmi smi rot sot
    obtain ⟨hB,ro,rmi,rot⟩:=stp
    have so:=RFz4 ro
    have smi:=RFz2 rmi
    have sot:=RFz5 rot
    simp only [setItems,List.setIfInBounds_toArray,List.set_cons_succ,List.set_cons_zero,List.take_succ_cons,List.take_zero,List.drop_succ_cons,List.drop_zero]
    go_wp2_with fail
    have sB:=hB.size
    refine post_cut (fun X=>Below w.heap.size w X∧Row X w.heap.size (.cells #[.string (S xl.num),.string (S (xl.den:Int)),.string (S xh.num),.string (S (xh.den:Int))] 30)) ⟨BW,RW8⟩ ?_
    clear ro
    clear so
    clear rmi
    clear smi
    clear rot
    clear sot
    clear hB sB
    rintro V6 ⟨hB,ro⟩
    have so:=RFz4 ro
    refine bodyPost_ret (v := .agg #[.string (S xl.num),.string (S (xl.den:Int)),.string (S xh.num),.string (S (xh.den:Int))]) ?res rfl ⟨⟨xl,xh⟩,rfl,rfl,hB⟩
    case res=>simp [results,Tryz.results88, go_sem,so]
end Go.Proofs.YtnokpldomlmamaaGreatDoor
