/-
 Drift and its reference at histories of any strings: both hand back the same. The reference's Compare, where the second argument is no fraction: 0. Until: drift and its reference hand back the same, at histories of any strings and any width. DriftMatchesReference: what its loops speak of.
-/
import Derived.Test.YtnokpldomlmamaaGreatDoorODPlain3
import Derived.Test.YtnokpldomlmamaaGreatDoorOM10
import Derived.Test.YtnokpldomlmamaaGreatDoorOM12
import Derived.Test.YtnokpldomlmamaaGreatDoorOMRaw
import Derived.Test.YtnokpldomlmamaaGreatDoorOSane12
set_option linter.unusedSimpArgs false
set_option linter.unusedVariables false
set_option maxRecDepth 100000
set_option maxHeartbeats 16000000
namespace Go.Proofs.YtnokpldomlmamaaGreatDoor
open Go Go.RowKit Go.Lib Go.Shelf
/-- A history of strings, and few points. -/
structure RHist (a b:ByteArray) (l:List RP):Prop where
 a:Str a
 b:Str b
 str:∀ x,x ∈ l→RStr x
 few:l.length≤10
/-- Its points lie in memory. -/
structure RMem (W:World) (p:Option Addr) (n c:Nat) (l:List RP):Prop where
 row:RAt W p l
 len:l.length=n
 cap:n≤c
 nil:l=[]→p=none
theorem RMem.below {W W':World} {p:Option Addr} {n c:Nat} {l:List RP} (h:RMem W p n c l) (hB:Below W.heap.size W W'):RMem W' p n c l:=⟨h.row.below hB,h.len,h.cap,h.nil⟩
theorem hist_cases {a b:ByteArray} {l:List RP} (h:RHist a b l):(∃ H,HistS a b l H)∨∀ p n c W,RMem W p n c l→Env W →
  Calls Tryz.prog 22 #[.agg #[.string a,.string b,.slice p n c]] W (BoolOk false W)∧Calls Tryz.prog 23 #[.agg #[.string a,.string b,.slice p n c]] W (BoolOk false W):=by
 by_cases hv:∃ H,HistS a b l H
 ·exact .inl hv
 ·exact .inr fun p n c W hm he=>dvno h.a h.b p n c hm.len (by have:=h.few;have:=hm.len;omega) h.str hv W hm.row he
theorem empty_str:Str (⟨#[]⟩:ByteArray):=by unfold Str;decide
theorem S_empty (z:Int):S z≠⟨#[]⟩:=fun h=>by
 have h1:=S_first z
 rw [h] at h1
 exact absurd h1.1 (by decide)
theorem zeroH_no:¬ ∃ H,HistS ⟨#[]⟩ ⟨#[]⟩ [] H:=fun ⟨H,h⟩=>S_empty _ h.rate.1.symm
/-- Valid. -/
theorem valid_both {a b:ByteArray} {l:List RP} (h:RHist a b l):∃ u,∀ p n c W,RMem W p n c l→Env W →
  Calls Tryz.prog 22 #[.agg #[.string a,.string b,.slice p n c]] W (BoolOk u W)∧Calls Tryz.prog 23 #[.agg #[.string a,.string b,.slice p n c]] W (BoolOk u W):=by
 rcases hist_cases h with ⟨⟨r,pl⟩,s⟩ | hno
 ·have ho:=s.ok
  obtain ⟨rfl,rfl,_⟩:=s.rate
  exact ⟨true,fun p n c W hm he=>⟨dvalid ho p n c (s.len.trans hm.len) W (s.at hm.row) he,r12valid ho p n c (s.len.trans hm.len) W (s.at hm.row)⟩⟩
 ·exact ⟨false,hno⟩
def AtV (x1 x2 x3 x4:ByteArray) (k:Int) (w:World) (e:Ending) (w':World):Prop:=e = .returned (.tuple #[.agg #[.string x1,.string x2,.string x3,.string x4],.int .i64 k])∧Below w.heap.size w w'
theorem at_post {r:Rat} {pl:List Pt} {T:Nat} {o:Iv} (hf:Free ⟨r,pl⟩) (ko:Knows ⟨r,pl⟩ T o) {F:FuncId} {args:Array Value} {W:World} (h:Calls Tryz.prog F args W (AtPost r pl T W)) :
  Calls Tryz.prog F args W (AtV (S o.lo.num) (S (o.lo.den:Int)) (S o.hi.num) (S (o.hi.den:Int)) 0 W):=h.mono fun e w' h=>by
 obtain ⟨⟨_,o',k',e1⟩ | ⟨nf,_⟩,hb⟩:=h
 ·rw [Knows.unique k' ko] at e1
  exact ⟨e1,hb⟩
 ·exact absurd hf nf
theorem at_bad {r:Rat} {pl:List Pt} {T:Nat} (hf:¬ Free ⟨r,pl⟩) {F:FuncId} {args:Array Value} {W:World} (h:Calls Tryz.prog F args W (AtPost r pl T W)):Calls Tryz.prog F args W (AtErr W):=h.mono fun e w' h=>by
 obtain ⟨⟨h1,_⟩ | ⟨_,e1⟩,hb⟩:=h
 ·exact absurd h1 hf
 ·exact ⟨e1,hb⟩
/-- At, where nothing is known: no points, or a time that is out of bounds. -/
theorem at_outH {r:Rat} {pl:List Pt} (ho:Hist.Ok ⟨r,pl⟩) {t:Int} (ht:pl=[]∨t<0∨1000000<t) (p:Option Addr) (n c:Nat) (hn:pl.length=n) (W:World) (hp:PAt W p pl) (he:Env W) :
  Calls Tryz.prog 11 #[.agg #[.string (S r.num),.string (S (r.den:Int)),.slice p n c],.int .i64 t] W (AtErr W)∧Calls Tryz.prog 12 #[.agg #[.string (S r.num),.string (S (r.den:Int)),.slice p n c],.int .i64 t] W (AtErr W):=by
 have HV:∀ W',Below W.heap.size W W'→Calls Tryz.prog 23 #[.agg #[.string (S r.num),.string (S (r.den:Int)),.slice p n c]] W' (BoolOk true W'):=fun W' hb=>r12valid ho p n c hn W' (hp.below hb)
 rcases Nat.eq_zero_or_pos n with h0 | h0
 ·subst h0
  obtain rfl:pl=[]:=List.length_eq_zero_iff.1 hn
  exact ⟨dat_empty ho t p c W hp he,r12at_empty (n:=0) W HV⟩
 ·have h3:t<0∨1000000<t:=ht.resolve_left fun e=>by subst e;simp at hn;omega
  rcases h3 with h1 | h1
  ·exact ⟨dat_low ho h1 p n c hn h0 W hp he,r12at_low h0 h1 W HV⟩
  ·exact ⟨dat_high ho h1 p n c hn h0 W hp he,r12at_high h0 h1 W HV⟩
/-- At. -/
theorem at_both {a b:ByteArray} {l:List RP} (h:RHist a b l) (t:Int):∃ x1 x2 x3 x4 k,∀ p n c W,RMem W p n c l→Env W →
  Calls Tryz.prog 11 #[.agg #[.string a,.string b,.slice p n c],.int .i64 t] W (AtV x1 x2 x3 x4 k W)∧Calls Tryz.prog 12 #[.agg #[.string a,.string b,.slice p n c],.int .i64 t] W (AtV x1 x2 x3 x4 k W):=by
 rcases hist_cases h with ⟨⟨r,pl⟩,s⟩ | hno
 ·have ho:=s.ok
  obtain ⟨rfl,rfl,_⟩:=s.rate
  by_cases hout:pl=[]∨t<0∨1000000<t
  ·exact ⟨⟨#[]⟩,⟨#[]⟩,⟨#[]⟩,⟨#[]⟩,120,fun p n c W hm he=>at_outH ho hout p n c (s.len.trans hm.len) W (s.at hm.row) he⟩
  ·obtain ⟨T,rfl⟩:∃ T:Nat,t=(T:Int):=⟨t.toNat,by omega⟩
   have hT:T≤1000000:=by omega
   have hne:pl≠[]:=fun e=>hout (.inl e)
   have hpos:∀ n,pl.length=n→0<n:=fun n e=>by rw [← e];exact List.length_pos_iff.2 hne
   by_cases hf:Free ⟨r,pl⟩
   ·obtain ⟨o,ko⟩:=exists_knows ⟨r,pl⟩ T hne
    exact ⟨_,_,_,_,_,fun p n c W hm he=>⟨at_post hf ko (dat ho hT p n c (s.len.trans hm.len) (hpos n (s.len.trans hm.len)) W (s.at hm.row) he),at_post hf ko (r12at ho hT p n c (s.len.trans hm.len) (hpos n (s.len.trans hm.len)) W (s.at hm.row))⟩⟩
   ·exact ⟨⟨#[]⟩,⟨#[]⟩,⟨#[]⟩,⟨#[]⟩,120,fun p n c W hm he=>⟨at_bad hf (dat ho hT p n c (s.len.trans hm.len) (hpos n (s.len.trans hm.len)) W (s.at hm.row) he),at_bad hf (r12at ho hT p n c (s.len.trans hm.len) (hpos n (s.len.trans hm.len)) W (s.at hm.row))⟩⟩
 ·exact ⟨⟨#[]⟩,⟨#[]⟩,⟨#[]⟩,⟨#[]⟩,120,fun p n c W hm he=>⟨datno W fun W' hb=>(hno p n c W' (hm.below hb) (he.below hb)).1,r12atno W fun W' hb=>(hno p n c W' (hm.below hb) (he.below hb)).2⟩⟩
/-- Contradictions. -/
def CV (L:List (Nat × Nat)) (w:World) (e:Ending) (w':World):Prop:=∃ v,w'.ownsRow w.heap.size 27 2 v L.length (cCells L)∧e = .returned v∧Below w.heap.size w w'
theorem nil_cv {F:FuncId} {args:Array Value} {W:World} (h:Calls Tryz.prog F args W (NilOk W)):Calls Tryz.prog F args W (CV [] W):=h.mono fun e w' h=>⟨_,World.ownsRow_nil _ _ _ _,h.1,h.2⟩
theorem cons_both {a b:ByteArray} {l:List RP} (h:RHist a b l):∃ L,∀ p n c W,RMem W p n c l→Env W →
  Calls Tryz.prog 20 #[.agg #[.string a,.string b,.slice p n c]] W (CV L W)∧Calls Tryz.prog 21 #[.agg #[.string a,.string b,.slice p n c]] W (CV L W):=by
 rcases hist_cases h with ⟨⟨r,pl⟩,s⟩ | hno
 ·have ho:=s.ok
  obtain ⟨rfl,rfl,_⟩:=s.rate
  exact ⟨cons ⟨r,pl⟩,fun p n c W hm he=>⟨dcons ho p n c (s.len.trans hm.len) W (s.at hm.row) he,r12cons ho p n c (s.len.trans hm.len) W (s.at hm.row)⟩⟩
 ·exact ⟨[],fun p n c W hm he=>⟨nil_cv (dconsno W fun W' hb=>(hno p n c W' (hm.below hb) (he.below hb)).1),nil_cv (r12consno W fun W' hb=>(hno p n c W' (hm.below hb) (he.below hb)).2)⟩⟩
/-- Known. -/
def KV (s1 s2:ByteArray) (k:Nat) (lk:List RP) (w:World) (e:Ending) (w':World):Prop:=∃ p c,(w'.ownsRow w.heap.size 32 5 (.slice p k c) k (rCells lk))∧e = .returned (.agg #[.string s1,.string s2,.slice p k c])∧Below w.heap.size w w'
theorem zero_kv {F:FuncId} {args:Array Value} {W:World} (h:Calls Tryz.prog F args W (ZHist W)):Calls Tryz.prog F args W (KV ⟨#[]⟩ ⟨#[]⟩ 0 [] W):=h.mono fun e w' h=>⟨none,0,World.ownsRow_nil _ _ _ _,h.1,h.2⟩
theorem known_kv {r:Rat} {pl:List Pt} {k:Nat} {F:FuncId} {args:Array Value} {W:World} (h:Calls Tryz.prog F args W (KnownOk r pl k W)):Calls Tryz.prog F args W (KV (S r.num) (S (r.den:Int)) k (pl.map rawOf) W):=h.mono fun e w' ⟨p,c,h1,h2,h3⟩=>⟨p,c,by rw [rCells_raw];exact h1,h2,h3⟩
theorem known_both {a b:ByteArray} {l:List RP} (h:RHist a b l) (t:Int):∃ s1 s2 k lk,lk.length=k∧k≤10∧∀ p n c W,RMem W p n c l→Env W →
  Calls Tryz.prog 16 #[.agg #[.string a,.string b,.slice p n c],.int .i64 t] W (KV s1 s2 k lk W)∧Calls Tryz.prog 17 #[.agg #[.string a,.string b,.slice p n c],.int .i64 t] W (KV s1 s2 k lk W):=by
 rcases hist_cases h with ⟨⟨r,pl⟩,s⟩ | hno
 ·have ho:=s.ok
  have hl:=s.len
  obtain ⟨rfl,rfl,_⟩:=s.rate
  have hk:=upTo_le pl t
  simp only at hl
  refine ⟨S r.num,S (r.den:Int),upTo pl t,(pl.take (upTo pl t)).map rawOf,by rw [List.length_map,List.length_take];omega,by have:=h.few;omega,fun p n c W hm he=>⟨?_,?_⟩⟩
  ·exact known_kv (dknown t ho p n c (s.len.trans hm.len) hm.cap W (s.at hm.row) he)
  ·exact known_kv (r12known t ho p n c (s.len.trans hm.len) W (s.at hm.row))
 ·exact ⟨⟨#[]⟩,⟨#[]⟩,0,[],rfl,by omega,fun p n c W hm he=>⟨zero_kv (dknownno W fun W' hb=>(hno p n c W' (hm.below hb) (he.below hb)).1),zero_kv (r12knownno W fun W' hb=>(hno p n c W' (hm.below hb) (he.below hb)).2)⟩⟩
/-- Add. -/
def AV (s1 s2:ByteArray) (la:List RP) (k:Int) (w:World) (e:Ending) (w':World):Prop:=∃ p c,RAt w' p la∧e = .returned (.tuple #[.agg #[.string s1,.string s2,.slice p la.length c],.int .i64 k])∧Below w.heap.size w w'
theorem err_av {F:FuncId} {args:Array Value} {W:World} (h:Calls Tryz.prog F args W (AddErr W)):Calls Tryz.prog F args W (AV ⟨#[]⟩ ⟨#[]⟩ [] 120 W):=h.mono fun e w' h=>⟨none,0,.inl ⟨rfl,.inl rfl⟩,h.1,h.2⟩
theorem ok_av {r:Rat} {pl:List Pt} {F:FuncId} {args:Array Value} {W:World} (h:Calls Tryz.prog F args W (AddOk r pl W)):Calls Tryz.prog F args W (AV (S r.num) (S (r.den:Int)) (pl.map rawOf) 0 W):=h.mono fun e w' ⟨p,c,h1,h2,h3⟩ =>
 ⟨p,c,own_ratR (by rw [rCells_raw,List.length_map];exact h1) rfl,by rw [List.length_map];exact h2,h3⟩
theorem add_both {a b:ByteArray} {l:List RP} (h:RHist a b l) {xt:Int} {xa xb xc xd:ByteArray} (hx:RStr ⟨xt,xa,xb,xc,xd⟩):∃ s1 s2 la k,la.length≤11∧∀ p n c W,RMem W p n c l→Env W →
  Calls Tryz.prog 18 #[.agg #[.string a,.string b,.slice p n c],.agg #[.int .i64 xt,.string xa,.string xb,.string xc,.string xd]] W (AV s1 s2 la k W)∧Calls Tryz.prog 19 #[.agg #[.string a,.string b,.slice p n c],.agg #[.int .i64 xt,.string xa,.string xb,.string xc,.string xd]] W (AV s1 s2 la k W):=by
 rcases hist_cases h with ⟨⟨r,pl⟩,s⟩ | hno
 ·have ho:=s.ok
  have hl:=s.len
  have hfew:=h.few
  have hnil:pl=[]→l=[]:=fun e=>by subst e;exact List.length_eq_zero_iff.1 hl.symm
  simp only at hl
  obtain ⟨ra,rb,_⟩:=s.rate
  by_cases hg:ptG ⟨xt,xa,xb,xc,xd⟩
  ·obtain ⟨q,hq⟩:=hg
   have hoi:Hist.Ok ⟨r,ins pl q⟩:=ins_ok (h:=⟨r,pl⟩) ho (by simp only;omega) hq.max ⟨hq.ok,hq.lo.2.2,hq.hi.2.2⟩
   have e0:xt=(q.t:Int):=hq.t
   have e1:xa=S q.iv.lo.num:=hq.lo.1
   have e2:xb=S (q.iv.lo.den:Int):=hq.lo.2.1
   have e3:xc=S q.iv.hi.num:=hq.hi.1
   have e4:xd=S (q.iv.hi.den:Int):=hq.hi.2.1
   subst e0 e1 e2 e3 e4
   subst ra rb
   refine ⟨S r.num,S (r.den:Int),(ins pl q).map rawOf,0,by rw [List.length_map,ins_length];omega,fun p n c W hm he=>⟨?_,?_⟩⟩
   ·exact ok_av (dadd ho hoi p n c (s.len.trans hm.len) W (s.at hm.row) he)
   ·exact ok_av (r12add ho hoi p n c (s.len.trans hm.len) hm.cap W (s.at hm.row) fun e=>hm.nil (hnil e))
  ·subst ra rb
   have hst:∀ z,z ∈ insR pl ⟨xt,xa,xb,xc,xd⟩→RStr z:=insR_str ho hx
   have HV:∀ m,pl.length=m→∀ q d W,RAt W q (insR pl ⟨xt,xa,xb,xc,xd⟩)→Env W→_:=fun m hm q d W hr he=>dvno h.a h.b q (m+1) d (by rw [insR_length,hm]) (by omega) hst (insR_no hg) W hr he
   refine ⟨⟨#[]⟩,⟨#[]⟩,[],120,by simp,fun p n c W hm he=>⟨?_,?_⟩⟩
   ·exact err_av (dadd_bad ho p n c (s.len.trans hm.len) (fun q d W hr he=>(HV n (s.len.trans hm.len) q d W hr he).1) W (s.at hm.row) he)
   ·exact err_av (r12add_bad ho p n c (s.len.trans hm.len) hm.cap (fun q d W hr he=>(HV n (s.len.trans hm.len) q d W hr he).2) W (s.at hm.row) (fun e=>hm.nil (hnil e)) he)
 ·exact ⟨⟨#[]⟩,⟨#[]⟩,[],120,by simp,fun p n c W hm he=>⟨err_av (daddno W fun W' hb=>(hno p n c W' (hm.below hb) (he.below hb)).1),err_av (r12addno W fun W' hb=>(hno p n c W' (hm.below hb) (he.below hb)).2)⟩⟩
end Go.Proofs.YtnokpldomlmamaaGreatDoor
namespace Go.Proofs.YtnokpldomlmamaaGreatDoor
open Go Go.RowKit Go.Lib Go.Shelf
theorem rcmp_bad {a b c d:ByteArray} (V1:∀ W,Env W→Calls Tryz.prog 61 #[.agg #[.string a,.string b]] W (BoolOk true W)) (V2:∀ W,Env W→Calls Tryz.prog 61 #[.agg #[.string c,.string d]] W (BoolOk false W)) (w:World) (he:Env w):Calls Tryz.prog 56 #[.agg #[.string a,.string b],.agg #[.string c,.string d]] w (CmpOk 0 w):=by
 have hB:Below w.heap.size w w:=Below.refl _ _
 have M1:=V1
 have M2:=V2
 unfold BoolOk at *
 unfold CmpOk
 clear V1 V2
 go_enter Tryz.func56, Tryz.ntmps56
 go_wp2_with fail
 have sB:=hB.size
 refine world_cut (fun X=>Below w.heap.size w X∧Row X w.heap.size (.cells #[.string a,.string b] 23)∧Row X (w.heap.size+1) (.cells #[.string c,.string d] 23)) ⟨BW,RWh,RWh⟩ ?_
 clear hB sB
 rintro V1 ⟨hB,rb0,rb1⟩
 have sb0:=RF2 rb0
 have sb1:=RF2 rb1
 refine (M1 _ (he.below hB)).mono ?_
 rintro e W2 ⟨rfl,h1⟩
 have stp:=St2 hB h1 rb0 rb1;clear hB h1 rb0 sb0 rb1 sb1
 obtain ⟨hB,rb0,rb1⟩:=stp
 have sb0:=RF2 rb0
 have sb1:=RF2 rb1
 go_wp2_with fail
 refine (M2 _ (he.below hB)).mono ?_
 rintro e W3 ⟨rfl,h1⟩
 have stp:=St2 hB h1 rb0 rb1;clear hB h1 rb0 sb0 rb1 sb1
 obtain ⟨hB,rb0,rb1⟩:=stp
 have sb0:=RF2 rb0
 have sb1:=RF2 rb1
 go_wp2
 go_ret
 exact ⟨rfl,hB⟩
end Go.Proofs.YtnokpldomlmamaaGreatDoor
namespace Go.Proofs.YtnokpldomlmamaaGreatDoor
open Go Go.RowKit Go.Lib Go.Shelf
theorem exists_until (k:Hist) (f:Nat) (wd:Rat) (hf:f≤1000000):∃ n u,UntilIs k f wd n u:=by
 by_cases h:k.pts=[]∨¬ Free k
 ·exact ⟨_,_,.none h⟩
 ·have h1:k.pts≠[]:=fun e=>h (.inl e)
  have h2:Free k:=Classical.byContradiction fun e=>h (.inr e)
  obtain ⟨o,ko⟩:=exists_knows k f h1
  by_cases hw:wd<o.hi - o.lo
  ·exact ⟨_,_,.wide h1 h2 ko hw⟩
  ·have key:∀ M,∃ N,N≤M∧o.hi - o.lo+far k.rate (2 * N)≤wd∧(N<M→wd<o.hi - o.lo+far k.rate (2 * (N+1))):=by
    intro M
    induction M with
    | zero=>exact ⟨0,Nat.le_refl _,by rw [Nat.mul_zero,far_zero];grind,by omega⟩
    | succ M ih =>
     obtain ⟨N,hN,h5,h6⟩:=ih
     rcases Nat.eq_or_lt_of_le hN with rfl | hlt
     ·by_cases hc:o.hi - o.lo+far k.rate (2 * (N+1))≤wd
      ·exact ⟨N+1,Nat.le_refl _,hc,by omega⟩
      ·exact ⟨N,by omega,h5,fun _=>Rat.not_le.1 hc⟩
     ·exact ⟨N,by omega,h5,fun _=>h6 hlt⟩
   obtain ⟨N,hN,h5,h6⟩:=key (1000000 - f)
   exact ⟨_,_,.last h1 h2 ko (by omega) h5 (fun h=>h6 (by omega))⟩
def UV (m:Int) (u:Bool) (w:World) (e:Ending) (w':World):Prop:=e = .returned (.tuple #[.int .i64 m,.bool u])∧Below w.heap.size w w'
theorem own_kat {W:World} {n k c:Nat} {p:Option Addr} {lk:List Pt} (h:W.ownsRow n 32 5 (.slice p k c) k (pCells lk)) (hl:lk.length=k):PAt W p lk:=own_patR h hl
/-- within, of a history whose interval at the time is known. -/
theorem within_at {r wd:Rat} {lk:List Pt} (ho:Hist.Ok ⟨r,lk⟩) {j:Nat} (hj:j≤1000000) (hfr:Free ⟨r,lk⟩) (hpos:0<lk.length) {o:Iv} (ko:Knows ⟨r,lk⟩ j o) (hwd:QDig 200 wd) (p:Option Addr) (k c:Nat) (hl:lk.length=k) (W:World) (hp:PAt W p lk) (he:Env W) :
  Calls Tryz.prog 62 #[.agg #[.string (S r.num),.string (S (r.den:Int)),.slice p k c],.int .i64 (j:Int),.agg #[.string (S wd.num),.string (S (wd.den:Int))]] W (WithOk (decide (o.hi - o.lo≤wd)) 0 W):=by
 have hd:=ko.dig ho.rdig (fun q hq=>(ho.ivs q hq).2) hj ho.times
 have h:=within_ok (d1:=S (o.hi - o.lo).num) (d2:=S ((o.hi - o.lo).den:Int)) (k:=cmpQ (o.hi - o.lo) wd) W (fun W' hb=>at_post hfr ko (r12at ho hj p k c hl (by omega) W' (hp.below hb))) (fun W' hb=>rqsub hd.2 hd.1 (by omega) W') (fun W' hb=>rqcompare (o.hi - o.lo) wd ((hd.2.sub hd.1).mono (by omega)) hwd W')
 rwa [show decide (cmpQ (o.hi - o.lo) wd≤0)=decide (o.hi - o.lo≤wd) from decide_eq_decide.2 cmpQ_le] at h
theorem within_no {r:Rat} {lk:List Pt} (ho:Hist.Ok ⟨r,lk⟩) {t:Int} (hbad:(lk=[]∨t<0∨1000000<t)∨¬ Free ⟨r,lk⟩) (x1 x2:ByteArray) (p:Option Addr) (k c:Nat) (hl:lk.length=k) (W:World) (hp:PAt W p lk) (he:Env W) :
  Calls Tryz.prog 62 #[.agg #[.string (S r.num),.string (S (r.den:Int)),.slice p k c],.int .i64 t,.agg #[.string x1,.string x2]] W (WithOk false 120 W):=by
 by_cases hout:lk=[]∨t<0∨1000000<t
 ·exact within_err W fun W' hb=>(at_outH ho hout p k c hl W' (hp.below hb) (he.below hb)).2
 ·obtain ⟨T,rfl⟩:∃ T:Nat,t=(T:Int):=⟨t.toNat,by omega⟩
  have hne:lk≠[]:=fun e=>hout (.inl e)
  exact within_err W fun W' hb=>at_bad (hbad.resolve_left hout) (r12at ho (by omega) p k c hl (by rw [← hl];exact List.length_pos_iff.2 hne) W' (hp.below hb))
/-- The reference's Until, at valid histories, times and widths. -/
theorem r12until {r wd:Rat} {l:List Pt} (ho:Hist.Ok ⟨r,l⟩) {f n:Nat} {u:Bool} (hf:f≤1000000) (hwd:QDig 200 wd) (hu:UntilIs (known ⟨r,l⟩ f) f wd n u) (p:Option Addr) (m c:Nat) (hm:l.length=m) (w:World) (hp:PAt w p l) (he:Env w) :
  Calls Tryz.prog 14 #[.agg #[.string (S r.num),.string (S (r.den:Int)),.slice p m c],.int .i64 (f:Int),.agg #[.string (S wd.num),.string (S (wd.den:Int))]] w (UV n u w):=by
 have hok:=known_ok ho (f:Int)
 have htm:=known_times ⟨r,l⟩ ho (f:Int)
 unfold known at hok htm hu
 simp only at hok htm hu
 have KV:∀ W,Below w.heap.size w W→Calls Tryz.prog 17 #[.agg #[.string (S r.num),.string (S (r.den:Int)),.slice p m c],.int .i64 (f:Int)] W fun e w'=>∃ p2 c2,w'.ownsRow W.heap.size 32 5 (.slice p2 (upTo l f) c2) (upTo l f) (pCells (l.take (upTo l f)))∧e = .returned (.agg #[.string (S r.num),.string (S (r.den:Int)),.slice p2 (upTo l f) c2])∧Below W.heap.size W w':=fun W hW =>
  r12known (f:Int) ho p m c hm W (hp.below hW)
 have HV:∀ W,Below w.heap.size w W→Calls Tryz.prog 61 #[.agg #[.string (S wd.num),.string (S (wd.den:Int))]] W (BoolOk true W):=fun W hW=>rqvalid wd hwd W
 have hlk:(l.take (upTo l f)).length=upTo l f:=by rw [List.length_take,Nat.min_eq_left (upTo_le l _)]
 have hfu:∀ q,q ∈ l.take (upTo l f)→q.t≤f:=fun q hq=>by have:=htm q hq;omega
 generalize l.take (upTo l f)=lk at *
 generalize upTo l f=k at *
 cases hu with
 | none h =>
  exact r12until_b (e1:=120) _ _ _ _ _ _ p m c k (pCells lk) w KV HV fun p2 c2 n2 W hown hb=>within_no hok (h.elim (fun e => .inl (.inl e)) .inr) _ _ p2 k c2 hlk W (own_kat hown hlk) (he.below hb)
 | wide h1 h2 h3 h4 =>
  refine r12until_b (e1:=0) _ _ _ _ _ _ p m c k (pCells lk) w KV HV fun p2 c2 n2 W hown hb => ?_
  have:=within_at hok hf h2 (List.length_pos_iff.2 h1) h3 hwd p2 k c2 hlk W (own_kat hown hlk) (he.below hb)
  rwa [decide_eq_false (Rat.not_le.2 h4)] at this
 | @last o N h1 h2 h3 h4 h5 h6 =>
  refine r12until_c (N:=N) h4 _ _ _ _ _ _ p m c k (pCells lk) w KV HV fun p2 c2 n2 j W hown hb hfj hj => ?_
  obtain ⟨o',ko'⟩:=exists_knows ⟨r,lk⟩ j h1
  obtain ⟨i,rfl⟩:∃ i,j=f+i:=⟨j - f,by omega⟩
  have hwa:=width_after hfu h3 ko'
  have:=within_at hok hj h2 (List.length_pos_iff.2 h1) ko' hwd p2 k c2 hlk W (own_kat hown hlk) (he.below hb)
  have e:decide (o'.hi - o'.lo≤wd)=decide (f+i≤f+N):=by
   rw [hwa]
   refine decide_eq_decide.2 ⟨fun h => ?_,fun h => ?_⟩
   ·rcases Nat.lt_or_ge N i with hlt | hge
    ·have h7:=h6 (by omega)
     have h8:=far_mono hok.rate (show 2 * (N+1)≤2 * i by omega)
     simp only at h7 h8 h
     exfalso
     grind
    ·omega
   ·have h8:=far_mono hok.rate (show 2 * i≤2 * N by omega)
    simp only at h5 h8 ⊢
    grind
  rwa [e] at this
/-- within, whatever the width. -/
theorem within_any {r:Rat} {lk:List Pt} (ho:Hist.Ok ⟨r,lk⟩) (t:Int) {x1 x2:ByteArray} (h1:Str x1) (h2:Str x2):∃ b1 e1,∀ p k c W,lk.length=k→PAt W p lk→Env W →
  Calls Tryz.prog 62 #[.agg #[.string (S r.num),.string (S (r.den:Int)),.slice p k c],.int .i64 t,.agg #[.string x1,.string x2]] W (WithOk b1 e1 W):=by
 by_cases hbad:(lk=[]∨t<0∨1000000<t)∨¬ Free ⟨r,lk⟩
 ·exact ⟨false,120,fun p k c W hl hp he=>within_no ho hbad x1 x2 p k c hl W hp he⟩
 ·have hfr:Free ⟨r,lk⟩:=Classical.byContradiction fun e=>hbad (.inr e)
  have hout:¬ (lk=[]∨t<0∨1000000<t):=fun e=>hbad (.inl e)
  obtain ⟨T,rfl⟩:∃ T:Nat,t=(T:Int):=⟨t.toNat,by omega⟩
  have hne:lk≠[]:=fun e=>hout (.inl e)
  have hT:T≤1000000:=by omega
  obtain ⟨o,ko⟩:=exists_knows ⟨r,lk⟩ T hne
  rcases rat_cases x1 x2 h1 h2 with ⟨wd,e1,e2,hwd⟩ | hno
  ·subst e1 e2
   exact ⟨_,_,fun p k c W hl hp he=>within_at ho hT hfr (List.length_pos_iff.2 hne) ko hwd p k c hl W hp he⟩
  ·have hd:=ko.dig ho.rdig (fun q hq=>(ho.ivs q hq).2) hT ho.times
   refine ⟨true,0,fun p k c W hl hp he => ?_⟩
   have hpos:0<k:=by rw [← hl];exact List.length_pos_iff.2 hne
   exact within_ok (d1:=S (o.hi - o.lo).num) (d2:=S ((o.hi - o.lo).den:Int)) (k:=0) W (fun W' hb=>at_post hfr ko (r12at ho hT p k c hl hpos W' (hp.below hb))) (fun W' hb=>rqsub hd.2 hd.1 (by omega) W') (fun W' hb=>rcmp_bad (fun V hv=>rqvalid (o.hi - o.lo) ((hd.2.sub hd.1).mono (by omega)) V) (fun V hv=>hno.ref V hv) W' (he.below hb))
theorem zero_own {n0:Nat} {W:World}:W.ownsRow n0 32 5 (.slice none 0 0) 0 []:=World.ownsRow_nil _ _ _ _
/-- Until. -/
theorem until_both {a b:ByteArray} {l:List RP} (h:RHist a b l) (t:Int) {x1 x2:ByteArray} (h1:Str x1) (h2:Str x2):∃ m u,∀ p n c W,RMem W p n c l→Env W →
  Calls Tryz.prog 13 #[.agg #[.string a,.string b,.slice p n c],.int .i64 t,.agg #[.string x1,.string x2]] W (UV m u W)∧Calls Tryz.prog 14 #[.agg #[.string a,.string b,.slice p n c],.int .i64 t,.agg #[.string x1,.string x2]] W (UV m u W):=by
 obtain ⟨v,hv,MV,MR⟩:=rat_any x1 x2 h1 h2
 rcases hist_cases h with ⟨⟨r,pl⟩,s⟩ | hno
 ·have ho:=s.ok
  have hl:=s.len
  obtain ⟨rfl,rfl,_⟩:=s.rate
  simp only at hl
  have hok:=known_ok ho t
  unfold known at hok
  simp only at hok
  have hlk:(pl.take (upTo pl t)).length=upTo pl t:=by rw [List.length_take,Nat.min_eq_left (upTo_le pl _)]
  have KD:=fun (p:Option Addr) (n c:Nat) (W:World) (hm:RMem W p n c l) (he:Env W) (W':World) (hb:Below W.heap.size W W')=>dknown t ho p n c (s.len.trans hm.len) hm.cap W' (s.at (hm.below hb).row) (he.below hb)
  have KR:=fun (p:Option Addr) (n c:Nat) (W:World) (hm:RMem W p n c l) (W':World) (hb:Below W.heap.size W W')=>r12known t ho p n c (s.len.trans hm.len) W' (s.at (hm.below hb).row)
  cases v
  ·obtain ⟨b1,e1,HW⟩:=within_any hok t h1 h2
   exact ⟨0,false,fun p n c W hm he=>⟨duntil_inv _ _ _ _ _ _ p n c _ _ W (KD p n c W hm he) (fun W' hb=>MV W' (he.below hb)),
    r12until_a (e1:=e1) (b1:=b1) _ _ _ _ _ _ p n c _ _ W (KR p n c W hm) (fun W' hb=>MR W' (he.below hb)) fun p2 c2 n2 W' hown hb=>HW p2 _ c2 W' hlk (own_kat hown hlk) (he.below hb)⟩⟩
  ·obtain ⟨wd,e1,e2,hwd⟩:=hv.1 rfl
   by_cases hout:t<0∨1000000<t
   ·refine ⟨0,false,fun p n c W hm he=>⟨?_,?_⟩⟩
    ·rcases hout with ht | ht
     ·exact duntil_low ht _ _ _ _ _ _ p n c _ _ W (KD p n c W hm he) (fun W' hb=>MV W' (he.below hb))
     ·exact duntil_high ht _ _ _ _ _ _ p n c _ _ W (KD p n c W hm he) (fun W' hb=>MV W' (he.below hb))
    ·exact r12until_b (e1:=120) _ _ _ _ _ _ p n c _ _ W (KR p n c W hm) (fun W' hb=>MR W' (he.below hb)) fun p2 c2 n2 W' hown hb=>within_no hok (.inl (.inr hout)) _ _ p2 _ c2 hlk W' (own_kat hown hlk) (he.below hb)
   ·obtain ⟨f,rfl⟩:∃ f:Nat,t=(f:Int):=⟨t.toNat,by omega⟩
    have hf:f≤1000000:=by omega
    subst e1 e2
    obtain ⟨n0,u0,hu⟩:=exists_until (known ⟨r,pl⟩ f) f wd hf
    refine ⟨n0,u0,fun p n c W hm he=>⟨?_,r12until ho hf hwd hu p n c (s.len.trans hm.len) W (s.at hm.row) he⟩⟩
    refine (duntil ho hf hwd p n c (s.len.trans hm.len) hm.cap W (s.at hm.row) he).mono ?_
    rintro e w' ⟨n',u',hu',he',hb⟩
    have hrate:0≤(known ⟨r,pl⟩ f).rate:=ho.rate
    obtain ⟨rfl,rfl⟩:=UntilIs.unique hrate hu' hu
    exact ⟨he',hb⟩
 ·have KD:∀ p n c W,RMem W p n c l→Env W→∀ W',Below W.heap.size W W'→Calls Tryz.prog 16 #[.agg #[.string a,.string b,.slice p n c],.int .i64 t] W' fun e w'=>∃ p2 c2,w'.ownsRow W'.heap.size 32 5 (.slice p2 0 c2) 0 []∧e = .returned (.agg #[.string ⟨#[]⟩,.string ⟨#[]⟩,.slice p2 0 c2])∧Below W'.heap.size W' w':=fun p n c W hm he W' hb =>
   (dknownno W' fun V hv=>(hno p n c V ((hm.below hb).below hv) ((he.below hb).below hv)).1).mono fun e w' h=>⟨none,0,zero_own,h.1,h.2⟩
  have KR:∀ p n c W,RMem W p n c l→Env W→∀ W',Below W.heap.size W W'→Calls Tryz.prog 17 #[.agg #[.string a,.string b,.slice p n c],.int .i64 t] W' fun e w'=>∃ p2 c2,w'.ownsRow W'.heap.size 32 5 (.slice p2 0 c2) 0 []∧e = .returned (.agg #[.string ⟨#[]⟩,.string ⟨#[]⟩,.slice p2 0 c2])∧Below W'.heap.size W' w':=fun p n c W hm he W' hb =>
   (r12knownno W' fun V hv=>(hno p n c V ((hm.below hb).below hv) ((he.below hb).below hv)).2).mono fun e w' h=>⟨none,0,zero_own,h.1,h.2⟩
  have ZV:∀ p2 c2 n2 W',W'.ownsRow n2 32 5 (.slice p2 0 c2) 0 []→Env W'→Calls Tryz.prog 22 #[.agg #[.string ⟨#[]⟩,.string ⟨#[]⟩,.slice p2 0 c2]] W' (BoolOk false W')∧Calls Tryz.prog 23 #[.agg #[.string ⟨#[]⟩,.string ⟨#[]⟩,.slice p2 0 c2]] W' (BoolOk false W'):=fun p2 c2 n2 W' hown he =>
   dvno empty_str empty_str p2 0 c2 rfl (by omega) (by simp) zeroH_no W' (own_ratR (l:=[]) hown rfl) he
  refine ⟨0,false,fun p n c W hm he=>⟨?_,?_⟩⟩
  ·cases v
   ·exact duntil_inv _ _ _ _ _ _ p n c _ _ W (KD p n c W hm he) (fun W' hb=>MV W' (he.below hb))
   ·by_cases ht:t<0
    ·exact duntil_low ht _ _ _ _ _ _ p n c _ _ W (KD p n c W hm he) (fun W' hb=>MV W' (he.below hb))
    ·by_cases ht2:1000000<t
     ·exact duntil_high ht2 _ _ _ _ _ _ p n c _ _ W (KD p n c W hm he) (fun W' hb=>MV W' (he.below hb))
     ·obtain ⟨f,rfl⟩:∃ f:Nat,t=(f:Int):=⟨t.toNat,by omega⟩
      refine duntil_wide (show f≤1000000 by omega) _ _ _ _ _ _ p n c _ _ W (KD p n c W hm he) (fun W' hb=>MV W' (he.below hb)) fun p2 c2 bh bf bw n2 W' hown rh rf rwd hb => ?_
      exact iswide_bad (f:=f) (n:=0) (by omega) _ _ _ _ p2 0 c2 bh bf bw W' (fun X hX=>datno X fun V hv=>(ZV p2 c2 n2 V (own_later (own_later hown hX) hv) (((he.below hb).below hX).below hv)).1) rh rf rwd
  ·have HW:∀ p2 c2 n2 W',W'.ownsRow n2 32 5 (.slice p2 0 c2) 0 []→Below W.heap.size W W'→Calls Tryz.prog 62 #[.agg #[.string ⟨#[]⟩,.string ⟨#[]⟩,.slice p2 0 c2],.int .i64 t,.agg #[.string x1,.string x2]] W' (WithOk false 120 W'):=fun p2 c2 n2 W' hown hb =>
    within_err W' fun V hv=>r12atno V fun U hu=>(ZV p2 c2 n2 U (own_later (own_later hown hv) hu) (((he.below hb).below hv).below hu)).2
   cases v
   ·exact r12until_a (e1:=120) (b1:=false) _ _ _ _ _ _ p n c _ _ W (KR p n c W hm he) (fun W' hb=>MR W' (he.below hb)) HW
   ·exact r12until_b (e1:=120) _ _ _ _ _ _ p n c _ _ W (KR p n c W hm he) (fun W' hb=>MR W' (he.below hb)) HW
end Go.Proofs.YtnokpldomlmamaaGreatDoor
namespace Go.Proofs.YtnokpldomlmamaaGreatDoor
open Go Go.RowKit Go.Lib Go.Shelf
/-- One of the two histories of the law. -/
def HI (n0:Nat) (W:World) (cur:Array Value) (i:Nat):Prop:=∃ A1 A2 P N C L,RHist A1 A2 L∧cur[i * 3]? = some (.string A1)∧cur[i * 3+1]? = some (.string A2)∧cur[i * 3+2]? = some (.slice P N C)∧RMem W P N C L∧∀ g,P=some ⟨g,0,none⟩→n0≤g
def HI2 (n0:Nat) (W:World) (cur:Array Value):Prop:=∀ i,i<2→HI n0 W cur i
theorem HI2.below {n0:Nat} {W W':World} {cur:Array Value} (h:HI2 n0 W cur) (hB:Below W.heap.size W W'):HI2 n0 W' cur:=fun i hi=>by
 obtain ⟨A1,A2,P,N,C,L,h1,h2,h3,h4,h5,h6⟩:=h i hi
 exact ⟨A1,A2,P,N,C,L,h1,h2,h3,h4,h5.below hB,h6⟩
theorem RAt.set {n0 qb:Nat} {W:World} {p:Option Addr} {l:List RP} (h:RAt W p l) (hlo:∀ g,p=some ⟨g,0,none⟩→n0≤g) (hq:qb<n0) (i:Nat) (u:Value):RAt (W.setCell ⟨qb,i,none⟩ u) p l :=
 h.elim .inl fun ⟨g,cur,e,hr,hx⟩ => .inr ⟨g,cur,e,hr.set_other u (by have:=hlo g e;omega),hx⟩
theorem RMem.set {n0 qb:Nat} {W:World} {p:Option Addr} {n c:Nat} {l:List RP} (h:RMem W p n c l) (hlo:∀ g,p=some ⟨g,0,none⟩→n0≤g) (hq:qb<n0) (i:Nat) (u:Value):RMem (W.setCell ⟨qb,i,none⟩ u) p n c l :=
 ⟨h.row.set hlo hq i u,h.len,h.cap,h.nil⟩
theorem HI2.set {n0 qb:Nat} {W:World} {cur:Array Value} (h:HI2 n0 W cur) (hq:qb<n0) (i:Nat) (u:Value):HI2 n0 (W.setCell ⟨qb,i,none⟩ u) cur:=fun k hk=>by
 obtain ⟨A1,A2,P,N,C,L,h1,h2,h3,h4,h5,h6⟩:=h k hk
 exact ⟨A1,A2,P,N,C,L,h1,h2,h3,h4,h5.set h6 hq i u,h6⟩
theorem hi2_mk {n0:Nat} {W:World} {a1 a2 b1 b2:ByteArray} {p q:Option Addr} {k c m d:Nat} {l l':List RP} (h0:RHist a1 a2 l) (m0:RMem W p k c l) (l0:∀ g,p=some ⟨g,0,none⟩→n0≤g) (h1:RHist b1 b2 l') (m1:RMem W q m d l') (l1:∀ g,q=some ⟨g,0,none⟩→n0≤g) :
  HI2 n0 W #[.string a1,.string a2,.slice p k c,.string b1,.string b2,.slice q m d]:=fun i hi=>by
 rcases Nat.lt_or_ge i 1 with h | h
 ·obtain rfl:i=0:=by omega
  exact ⟨a1,a2,p,k,c,l,h0,rfl,rfl,rfl,m0,l0⟩
 ·obtain rfl:i=1:=by omega
  exact ⟨b1,b2,q,m,d,l',h1,rfl,rfl,rfl,m1,l1⟩
/-- What is said of few's history, and of the slice of both. -/
def SayFew (n0:Nat) (a1 a2:ByteArray) (k:Nat) (l:List RP):QSay:=fun v W=>∃ p c,v = .agg #[.string a1,.string a2,.slice p k c]∧RMem W p k c l∧∀ g,p=some ⟨g,0,none⟩→n0≤g
theorem SayFew.mono (n0:Nat) (a1 a2:ByteArray) (k:Nat) (l:List RP):qMono (SayFew n0 a1 a2 k l):=fun v W W' ⟨p,c,e,h,h2⟩ hB=>⟨p,c,e,h.below hB,h2⟩
def SayTwo (n0 B0:Nat) (a1 a2:ByteArray) (k:Nat) (l:List RP) (m1 m2:ByteArray) (pm:Option Addr) (m cm:Nat):QSay:=fun v W=>∃ B p c,v = .slice (some ⟨B,0,none⟩) 2 2∧B0≤B∧Row W B (.cells #[.string a1,.string a2,.slice p k c,.string m1,.string m2,.slice pm m cm] 26)∧RMem W p k c l∧∀ g,p=some ⟨g,0,none⟩→n0≤g
theorem SayTwo.mono (n0 B0:Nat) (a1 a2:ByteArray) (k:Nat) (l:List RP) (m1 m2:ByteArray) (pm:Option Addr) (m cm:Nat):qMono (SayTwo n0 B0 a1 a2 k l m1 m2 pm m cm):=fun v W W' ⟨B,p,c,e,hb,hr,h,h2⟩ hB=>⟨B,p,c,e,hb,Row.below hr hB,h.below hB,h2⟩
theorem sayTwo_new {n0:Nat} {a1 a2 m1 m2:ByteArray} {k c m cm:Nat} {p pm:Option Addr} {l:List RP} {V X:World} (h:Below V.heap.size V X) (h1:RMem X p k c l) (h2:∀ g,p=some ⟨g,0,none⟩→n0≤g) :
  SayTwo n0 V.heap.size a1 a2 k l m1 m2 pm m cm (.slice (some ⟨X.heap.size,0,none⟩) 2 2) (X.alloc (.cells #[.string a1,.string a2,.slice p k c,.string m1,.string m2,.slice pm m cm] 26)) ∧
   Below X.heap.size X (X.alloc (.cells #[.string a1,.string a2,.slice p k c,.string m1,.string m2,.slice pm m cm] 26)) :=
 have hB:=(Below.refl X.heap.size X).alloc (Nat.le_refl _) _
 ⟨⟨X.heap.size,p,c,rfl,h.size,row_new _ _,h1.below hB,h2⟩,hB⟩
theorem few_say {a b:ByteArray} {p:Option Addr} {n c n0:Nat} {f:Nat→RP} (hn:n≤9223372036854775807) (w:World) (hx:XP w p n f) (h0:n0≤w.heap.size) :
  Calls Tryz.prog 9 #[.agg #[.string a,.string b,.slice p n c]] w (fun e w'=>∃ v,e = .returned v∧SayFew n0 (cutS a) (cutS b) (min n 10) (fewL n f (min n 10)) v w'∧Below w.heap.size w w') :=
 (lfew hn w hx).mono fun e w' ⟨p2,c2,⟨h1,h2,h3,h4⟩,h5,h6⟩=>⟨_,h5,⟨p2,c2,rfl,⟨h1,fewL_length _ _ _,h2,fun e=>h3 (by have:=fewL_length n f (min n 10);rw [e] at this;simp at this;omega)⟩,fun g hg=>Nat.le_trans h0 (h4 g hg)⟩,h6⟩
theorem few_hist (a b:ByteArray) {n:Nat} {f:Nat→RP} (hf:∀ i,i<n→IsInt (f i).t):RHist (cutS a) (cutS b) (fewL n f (min n 10)) :=
 ⟨cutS_str a,cutS_str b,fewL_str n f hf _ (by omega),by rw [fewL_length];omega⟩
theorem made_r {a b:Int} (ha:IsInt a) (hb:IsInt b) {f:Nat→Nat→Int} {px:Option Addr} {n cx n0:Nat} (hf:∀ i j,i<n→j<4→IsInt (f i j)) (hn:n≤9223372036854775807) {r:Rat} {l:List Pt} (hr:madeRate a b=r) (hl:madeL f (min n 8)=l) (w:World) (hx:X4 w px n f) (h0:n0≤w.heap.size) :
  Calls Tryz.prog 7 #[.agg #[.int .i64 a,.int .i64 b],.slice px n cx] w (fun e w'=>∃ p c,(RMem w' p l.length c (l.map rawOf)∧∀ g,p=some ⟨g,0,none⟩→n0≤g)∧e = .returned (.agg #[.string (S r.num),.string (S (r.den:Int)),.slice p l.length c])∧Below w.heap.size w w'):=by
 subst hr hl
 refine (r12made ha hb f px n cx hf hn w hx).mono fun e w' ⟨p,c,h1,h2,⟨h3,h4⟩,h5,h6⟩=>⟨p,c,⟨⟨?_,List.length_map _,h2,fun e=>h3 (by simpa using e)⟩,fun g hg=>Nat.le_trans h0 (h4 g hg)⟩,h5,h6⟩
 rcases h1 with ⟨h7,h8⟩ | ⟨g,cur,e1,hr,hx1⟩
 ·exact .inl ⟨by rw [h7];rfl,h8⟩
 ·exact .inr ⟨g,cur,e1,hr,by rw [List.length_map,rCells_raw];exact hx1⟩
theorem made_hist {a b:Int} {f:Nat→Nat→Int} {k:Nat} (hk:k≤8) {r:Rat} {l:List Pt} (hr:madeRate a b=r) (hl:madeL f k=l):RHist (S r.num) (S (r.den:Int)) (l.map rawOf):=by
 have h:=(made_ok a b f k hk).1
 rw [hr,hl] at h
 have ds:∀ {z:Int} {k:Nat},k≤200→Dig k z→Str (S z):=fun {z k} hk h=>(is_S z).str (Nat.lt_of_lt_of_le h (Nat.pow_le_pow_right (by decide) hk))
 refine ⟨ds (by omega) h.ok.rdig.1,ds (by omega) h.ok.rdig.2,fun x hx => ?_,by rw [List.length_map];have:=h.few;simp only at this;omega⟩
 obtain ⟨p,hp,rfl⟩:=List.mem_map.1 hx
 have ht:=h.ok.times p hp
 obtain ⟨_,h1,h2⟩:=h.ok.ivs p hp
 exact ⟨by unfold rawOf IsInt;simp only;omega,ds (by omega) h1.1,ds (by omega) h1.2,ds (by omega) h2.1,ds (by omega) h2.2⟩
/-- What is said of what is known at a time. -/
def SayKn (s1 s2:ByteArray) (k:Nat) (lk:List RP):QSay:=fun v W=>∃ p c,v = .agg #[.string s1,.string s2,.slice p k c]∧RAt W p lk
theorem SayKn.mono (s1 s2:ByteArray) (k:Nat) (lk:List RP):qMono (SayKn s1 s2 k lk):=fun v W W' ⟨p,c,e,h⟩ hB=>⟨p,c,e,h.below hB⟩
theorem kn_say {s1 s2:ByteArray} {k:Nat} {lk:List RP} (hl:lk.length=k) {F:FuncId} {args:Array Value} {W:World} (h:Calls Tryz.prog F args W (KV s1 s2 k lk W)):Calls Tryz.prog F args W (fun e w'=>∃ v,e = .returned v∧SayKn s1 s2 k lk v w'∧Below W.heap.size W w'):=h.mono fun e w' ⟨p,c,h1,h2,h3⟩=>⟨_,h2,⟨p,c,rfl,own_ratR h1 hl⟩,h3⟩
/-- A pair of two slices of pairs. -/
def CAt (W:World) (p:Option Addr) (L:List (Nat × Nat)):Prop:=L=[]∨∃ g cur,p=some ⟨g,0,none⟩∧Row W g (.cells cur 27)∧cur.toList.take (L.length * 2)=cCells L∧L.length≤9223372036854775807
theorem CAt.len {W:World} {p:Option Addr} {L:List (Nat × Nat)} (h:CAt W p L):L.length≤9223372036854775807:=by
 rcases h with rfl | ⟨_,_,_,_,_,h⟩
 ·simp
 ·exact h
theorem CAt.below {W W':World} {p:Option Addr} {L:List (Nat × Nat)} (h:CAt W p L) (hB:Below W.heap.size W W'):CAt W' p L:=h.elim .inl fun ⟨g,cur,e,hr,hx⟩ => .inr ⟨g,cur,e,Row.below hr hB,hx⟩
theorem cv_at {L:List (Nat × Nat)} {F:FuncId} {args:Array Value} {W:World} (h:Calls Tryz.prog F args W (CV L W)):Calls Tryz.prog F args W (fun e w'=>∃ p c,CAt w' p L∧e = .returned (.slice p L.length c)∧Below W.heap.size W w'):=h.mono fun e w' ⟨v,h1,h2,h3⟩=>by
 obtain ⟨p,c,rfl⟩:=own_slice h1
 refine ⟨p,c,?_,h2,h3⟩
 obtain ⟨_,⟨he,hn⟩ | ⟨g,cap,cur,he,_,hg,hc1,hc2,_,hx⟩⟩:=h1
 ·exact .inl (List.length_eq_zero_iff.1 hn)
 ·simp only [Value.slice.injEq] at he
  obtain ⟨rfl,_,_⟩:=he
  have e2:maxLen=9223372036854775807:=by decide
  exact .inr ⟨g,cur,rfl,⟨(Array.getElem?_eq_some_iff.1 hg).1,hg⟩,hx,by omega⟩
theorem CAt.at {W:World} {p:Option Addr} {L:List (Nat × Nat)} (h:CAt W p L) {i:Nat} (hi:i<L.length):∃ g cur,p=some ⟨g,0,none⟩∧Row W g (.cells cur 27)∧cur[i * 2]? = some (.int .i64 ((L[i]).1:Int))∧cur[i * 2+1]? = some (.int .i64 ((L[i]).2:Int)):=by
 rcases h with rfl | ⟨g,cur,rfl,hr,hx,_⟩
 ·simp at hi
 ·have key:∀ (M:List (Nat × Nat)) (k:Nat) (hk:k<M.length),(cCells M)[k * 2]? = some (.int .i64 ((M[k]).1:Int))∧(cCells M)[k * 2+1]? = some (.int .i64 ((M[k]).2:Int)):=by
   intro M
   induction M with
   | nil=>intro k hk;simp at hk
   | cons x M ih =>
    intro k hk
    cases k with
    | zero=>exact ⟨rfl,rfl⟩
    | succ k =>
     have:=ih k (by simpa using hk)
     have e:cCells (x :: M) = .int .i64 (x.1:Int) :: .int .i64 (x.2:Int) :: cCells M:=rfl
     rw [e,show (k+1) * 2=k * 2+2 by omega]
     exact this
  obtain ⟨h1,h2⟩:=key L i hi
  rw [← hx,List.getElem?_take,if_pos (by omega),Array.getElem?_toList] at h1 h2
  exact ⟨g,cur,rfl,hr,h1,h2⟩
end Go.Proofs.YtnokpldomlmamaaGreatDoor
