/-
 The fixed examples that each drift law checks first.
-/
import Derived.Test.YtnokpldomlmamaaGreatDoorODSanePlain
import Derived.Test.YtnokpldomlmamaaGreatDoorOR12Made
set_option linter.unusedSimpArgs false
set_option linter.unusedVariables false
set_option maxRecDepth 100000
set_option maxHeartbeats 16000000
namespace Go.Proofs.YtnokpldomlmamaaGreatDoor
open Go Go.RowKit Go.Lib Go.Shelf
attribute [local go_sem] normalQ
theorem duntil_is {r wd:Rat} {l:List Pt} (ho:Hist.Ok ⟨r,l⟩) {f n:Nat} {b:Bool} (hf:f≤1000000) (hu:UntilIs (known ⟨r,l⟩ (f:Int)) f wd n b) (hwd:QDig 200 wd) (p:Option Addr) (m c:Nat) (hm:l.length=m) (hmc:m≤c) (w:World) (hp:PAt w p l) (he:Env w) :
  Calls Tryz.prog 13 #[.agg #[.string (S r.num),.string (S (r.den:Int)),.slice p m c],.int .i64 (f:Int),.agg #[.string (S wd.num),.string (S (wd.den:Int))]] w
   fun e w'=>e = .returned (.tuple #[.int .i64 (n:Int),.bool b])∧Below w.heap.size w w' :=
 (duntil ho hf hwd p m c hm hmc w hp he).mono fun e w' h=>by
  obtain ⟨n',b',h1,h2,h3⟩:=h
  obtain ⟨rfl,rfl⟩:=UntilIs.unique (known_ok ho (f:Int)).rate hu h1
  exact ⟨h2,h3⟩
theorem dat_known {r:Rat} {l:List Pt} (ho:Hist.Ok ⟨r,l⟩) (hf:Free ⟨r,l⟩) {t:Nat} {o:Iv} (hk:Knows ⟨r,l⟩ t o) (ht:t≤1000000) (p:Option Addr) (m c:Nat) (hm:l.length=m) (hpos:0<m) (w:World) (hp:PAt w p l) (he:Env w) :
  Calls Tryz.prog 11 #[.agg #[.string (S r.num),.string (S (r.den:Int)),.slice p m c],.int .i64 (t:Int)] w (fun e w'=>e = .returned (.tuple #[.agg #[.string (S o.lo.num),.string (S (o.lo.den:Int)),.string (S o.hi.num),.string (S (o.hi.den:Int))],.int .i64 0])∧Below w.heap.size w w') :=
 (dat_free ho hf ht p m c hm hpos w hp he).mono fun e w' h=>by
  obtain ⟨o',h1,h2,h3⟩:=h
  obtain rfl:=hk.unique h1
  exact ⟨h2,h3⟩
def SayAdd (r:Rat) (l:List Pt):QSay:=fun v W=>∃ p c,v = .tuple #[.agg #[.string (S r.num),.string (S (r.den:Int)),.slice p l.length c],.int .i64 0]∧PAt W p l∧l.length≤c
def SayHist (r:Rat) (l:List Pt):QSay:=fun v W=>∃ p c,v = .agg #[.string (S r.num),.string (S (r.den:Int)),.slice p l.length c]∧PAt W p l∧l.length≤c
def SaySl (n:Nat):QSay:=fun v W=>∃ p c,v = .slice p n c
theorem SayAdd.mono (r:Rat) (l:List Pt):qMono (SayAdd r l):=fun v W W' ⟨p,c,e,h,hc⟩ hB=>⟨p,c,e,h.below hB,hc⟩
theorem SayHist.mono (r:Rat) (l:List Pt):qMono (SayHist r l):=fun v W W' ⟨p,c,e,h,hc⟩ hB=>⟨p,c,e,h.below hB,hc⟩
theorem SaySl.mono (n:Nat):qMono (SaySl n):=fun v W W' h hB=>h
theorem dadd_say {r:Rat} {l l':List Pt} {a:Pt} (hl:ins l a=l') (ho:Hist.Ok ⟨r,l⟩) (hoi:Hist.Ok ⟨r,l'⟩) (p:Option Addr) (m c:Nat) (hm:l.length=m) (w:World) (hp:PAt w p l) (he:Env w) :
  Calls Tryz.prog 18 #[.agg #[.string (S r.num),.string (S (r.den:Int)),.slice p m c],.agg #[.int .i64 (a.t:Int),.string (S a.iv.lo.num),.string (S (a.iv.lo.den:Int)),.string (S a.iv.hi.num),.string (S (a.iv.hi.den:Int))]] w (fun e w'=>∃ v,e = .returned v∧SayAdd r l' v w'∧Below w.heap.size w w'):=by
 subst hl
 exact (dadd ho hoi p m c hm w hp he).mono fun e w' ⟨p',c',hown,h1,h2⟩=>⟨_,h1,⟨p',c',rfl,own_patR hown rfl,own_le hown⟩,h2⟩
theorem dknown_say {r:Rat} {l:List Pt} {k:Nat} (T:Int) (hk:upTo l T=k) (ho:Hist.Ok ⟨r,l⟩) (p:Option Addr) (n c:Nat) (hn:l.length=n) (hnc:n≤c) (w:World) (hp:PAt w p l) (he:Env w) :
  Calls Tryz.prog 16 #[.agg #[.string (S r.num),.string (S (r.den:Int)),.slice p n c],.int .i64 T] w (fun e w'=>∃ v,e = .returned v∧SayHist r (l.take k) v w'∧Below w.heap.size w w'):=by
 subst hk
 have hlen:(l.take (upTo l T)).length=upTo l T:=by rw [List.length_take];have:=upTo_le l T;omega
 refine (dknown T ho p n c hn hnc w hp he).mono fun e w' ⟨p',c',hown,h1,h2⟩=>⟨_,h1,⟨p',c',by rw [hlen],own_patR hown hlen,?_⟩,h2⟩
 rw [hlen];exact own_le hown
theorem sane_pts {W:World} {g:Nat} {a b:Pt} {x y:Int} (hx:(a.t:Int)=x) (hy:(b.t:Int)=y) (h:Row W g (.cells #[.int .i64 x,.string (S a.iv.lo.num),.string (S (a.iv.lo.den:Int)),.string (S a.iv.hi.num),.string (S (a.iv.hi.den:Int)),.int .i64 y,.string (S b.iv.lo.num),.string (S (b.iv.lo.den:Int)),.string (S b.iv.hi.num),.string (S (b.iv.hi.den:Int))] 32)):PAt W (some ⟨g,0,none⟩) [a,b]:=by
 subst hx hy
 exact .inr ⟨g,_,rfl,h,by simp [pCells,pC]⟩
theorem qId {p:Prop} (h:p):p:=h
theorem own_pair {W:World} {n:Nat} {v x y:Value} (h:W.ownsRow n 27 2 v 1 [x,y]):∃ g c cur,v = .slice (some ⟨g,0,none⟩) 1 c∧Row W g (.cells cur 27)∧cur.toList.take 2=[x,y]:=by
 obtain ⟨_,⟨_,h⟩ | ⟨g,cap,cur,e,_,hb,_,_,hs,ht⟩⟩:=h
 ·cases h
 ·exact ⟨g,cap,cur,e,⟨(Array.getElem?_eq_some_iff.1 hb).1,hb⟩,ht⟩
theorem sane12 (w:World) (he:Env w):Calls Tryz.prog 6 #[] w (BoolOk true w):=by
 have hB:Below w.heap.size w w:=Below.refl _ _
 have M0:∀ W,Env W→Calls Tryz.prog 46 #[.int .i64 1,.int .i64 10] W (fun e w'=>e = .returned (.agg #[.string (S sR.num),.string (S (sR.den:Int))])∧Below W.heap.size W w'):=fun W H=>lof (n:=1) (d:=10) (by decide) (by decide) (by decide) W H
 have Ma:∀ W,Env W→Calls Tryz.prog 47 #[.int .i64 5,.int .i64 6,.int .i64 1] W (fun e w'=>e = .returned (.agg #[.string (S sa.iv.lo.num),.string (S (sa.iv.lo.den:Int)),.string (S sa.iv.hi.num),.string (S (sa.iv.hi.den:Int))])∧Below W.heap.size W w'):=fun W H=>linterval (n:=5) (m:=6) (d:=1) (by decide) (by decide) (by decide) (by decide) W H
 have Mb:∀ W,Env W→Calls Tryz.prog 47 #[.int .i64 6,.int .i64 8,.int .i64 1] W (fun e w'=>e = .returned (.agg #[.string (S sb.iv.lo.num),.string (S (sb.iv.lo.den:Int)),.string (S sb.iv.hi.num),.string (S (sb.iv.hi.den:Int))])∧Below W.heap.size W w'):=fun W H=>linterval (n:=6) (m:=8) (d:=1) (by decide) (by decide) (by decide) (by decide) W H
 have Mc:∀ W,Env W→Calls Tryz.prog 47 #[.int .i64 8,.int .i64 9,.int .i64 1] W (fun e w'=>e = .returned (.agg #[.string (S sc.iv.lo.num),.string (S (sc.iv.lo.den:Int)),.string (S sc.iv.hi.num),.string (S (sc.iv.hi.den:Int))])∧Below W.heap.size W w'):=fun W H=>linterval (n:=8) (m:=9) (d:=1) (by decide) (by decide) (by decide) (by decide) W H
 have Mo1:∀ W,Env W→Calls Tryz.prog 47 #[.int .i64 5,.int .i64 7,.int .i64 1] W (fun e w'=>e = .returned (.agg #[.string (S so1.lo.num),.string (S (so1.lo.den:Int)),.string (S so1.hi.num),.string (S (so1.hi.den:Int))])∧Below W.heap.size W w'):=fun W H=>linterval (n:=5) (m:=7) (d:=1) (by decide) (by decide) (by decide) (by decide) W H
 have Mo2:∀ W,Env W→Calls Tryz.prog 47 #[.int .i64 5,.int .i64 9,.int .i64 1] W (fun e w'=>e = .returned (.agg #[.string (S so2.lo.num),.string (S (so2.lo.den:Int)),.string (S so2.hi.num),.string (S (so2.hi.den:Int))])∧Below W.heap.size W w'):=fun W H=>linterval (n:=5) (m:=9) (d:=1) (by decide) (by decide) (by decide) (by decide) W H
 have M4:=fun W (H:Env W)=>lof (n:=4) (d:=1) (by decide) (by decide) (by decide) W H
 have M1:=fun W (H:Env W)=>lof (n:=1) (d:=1) (by decide) (by decide) (by decide) W H
 unfold Q at M4 M1
 have A1:=fun W p (hp:PAt W p [sa,sb]) (H:Env W)=>dat_known s_ok s_free s_knows1 (by decide) p 2 2 rfl (by decide) W hp H
 have A2:=fun W p (hp:PAt W p [sa,sb]) (H:Env W)=>dat_known s_ok s_free s_knows2 (by decide) p 2 2 rfl (by decide) W hp H
 have A3:=fun W p c (hp:PAt W p [sa,sc,sb]) (H:Env W)=>dat_bad s_ok2 s_bad (t:=15) (by decide) p 3 c rfl (by decide) W hp H
 unfold AtErr at A3
 have MD:=fun W p (hp:PAt W p [sa,sb]) (H:Env W)=>dadd_say s_ins s_ok s_ok2 p 2 2 rfl W hp H
 have MC:=fun W p c (hp:PAt W p [sa,sc,sb]) (H:Env W)=>dcons s_ok2 p 3 c rfl W hp H
 rw [s_cons] at MC
 have U1:=fun W p (hp:PAt W p [sa,sb]) (H:Env W)=>duntil_is s_ok (f:=20) (by decide) s_until1 (QDig.mono (j:=1) (by unfold QDig Dig;decide +kernel) (by omega)) p 2 2 rfl (by decide) W hp H
 have U2:=fun W p (hp:PAt W p [sa,sb]) (H:Env W)=>duntil_is s_ok (f:=20) (by decide) s_until2 (QDig.mono (j:=1) (by unfold QDig Dig;decide +kernel) (by omega)) p 2 2 rfl (by decide) W hp H
 have MV:=fun W p (hp:PAt W p [sa,sb]) (H:Env W)=>dvalid s_ok p 2 2 rfl W hp H
 have MZ:=fun W=>dvalid_zero W
 unfold BoolOk HV at *
 have MK:=fun W p (hp:PAt W p [sa,sb]) (H:Env W)=>dknown_say 19 s_upto19 s_ok p 2 2 rfl (by decide) W hp H
 simp only [List.take_succ_cons,List.take_zero] at MK
 have E50:∀ W,(Op.equalIn 10000 27 (.agg #[.int .i64 0,.int .i64 1]) (.agg #[.int .i64 0,.int .i64 1])).run Tryz.prog W = .ok true W:=fun _=>by kernel_rfl
 have FX:∀ p c W,(Instr.field 26 (.agg #[.string (S sR.num),.string (S (sR.den:Int)),.slice p 1 c]) 1).run Tryz.prog W = .ok (.slice p 1 c) W:=fun _ _ _=>by kernel_rfl
 have hta:((sa.t:Nat):Int)=0:=rfl
 have htb:((sb.t:Nat):Int)=20:=rfl
 have htc:((sc.t:Nat):Int)=10:=rfl
 rw [htc] at MD
 simp only [Int.cast_ofNat_Int] at A1 A2 A3 U1 U2
 have PA:=fun W g h=>@sane_pts W g sa sb 0 20 hta htb h
 generalize sR=r at *
 generalize sa=a at *
 generalize sb=b at *
 generalize sc=c at *
 generalize so1=o1 at *
 generalize so2=o2 at *
 generalize Rat.divInt 4 1=q4 at *
 generalize Rat.divInt 1 1=q1 at *
 clear hta htb htc
 go_enter Tryz.func6, Tryz.ntmps6
 go_wp2_with fail
 refine (M0 _ (he.below hB)).mono ?_
 rintro e W1 ⟨rfl,h1⟩
 replace hB:=hB.trans (h1.mono hB.size)
 clear h1
 go_wp2_with fail
 refine (Ma _ (he.below hB)).mono ?_
 rintro e W2 ⟨rfl,h1⟩
 replace hB:=hB.trans (h1.mono hB.size)
 clear h1
 go_wp2_with fail
 refine (Mb _ (he.below hB)).mono ?_
 rintro e W3 ⟨rfl,h1⟩
 replace hB:=hB.trans (h1.mono hB.size)
 clear h1
 go_wp2_with fail
 have d0_h:w.heap.size≤W3.heap.size+1:=by have:=hB.size;omega
 have sB:=hB.size
 refine world_cut (fun X=>Below w.heap.size w X∧Row X W3.heap.size (.cells #[.int .i64 0,.string (S a.iv.lo.num),.string (S (a.iv.lo.den:Int)),.string (S a.iv.hi.num),.string (S (a.iv.hi.den:Int)),.int .i64 20,.string (S b.iv.lo.num),.string (S (b.iv.lo.den:Int)),.string (S b.iv.hi.num),.string (S (b.iv.hi.den:Int))] 32)∧Row X (W3.heap.size+1) (.cells #[.string (S r.num),.string (S (r.den:Int)),.slice (some ⟨W3.heap.size,0,none⟩) 2 2] 26)) ⟨BW,RWh,RWh⟩ ?_
 clear hB sB
 rintro V4 ⟨hB,rb0,rh⟩
 have Fb0:∀ X,Row X W3.heap.size (.cells #[.int .i64 0,.string (S a.iv.lo.num),.string (S (a.iv.lo.den:Int)),.string (S a.iv.hi.num),.string (S (a.iv.hi.den:Int)),.int .i64 20,.string (S b.iv.lo.num),.string (S (b.iv.lo.den:Int)),.string (S b.iv.hi.num),.string (S (b.iv.hi.den:Int))] 32)→(W3.heap.size<X.heap.size∧X.cell? ⟨W3.heap.size,0,none⟩=some (.int .i64 0)∧X.cell? ⟨W3.heap.size,1,none⟩=some (.string (S a.iv.lo.num))∧X.cell? ⟨W3.heap.size,2,none⟩=some (.string (S (a.iv.lo.den:Int)))∧X.cell? ⟨W3.heap.size,3,none⟩=some (.string (S a.iv.hi.num))∧X.cell? ⟨W3.heap.size,4,none⟩=some (.string (S (a.iv.hi.den:Int)))∧X.cell? ⟨W3.heap.size,5,none⟩=some (.int .i64 20)∧X.cell? ⟨W3.heap.size,6,none⟩=some (.string (S b.iv.lo.num))∧X.cell? ⟨W3.heap.size,7,none⟩=some (.string (S (b.iv.lo.den:Int)))∧X.cell? ⟨W3.heap.size,8,none⟩=some (.string (S b.iv.hi.num))∧X.cell? ⟨W3.heap.size,9,none⟩=some (.string (S (b.iv.hi.den:Int)))):=fun X h=>⟨h.1,Row.cell_at h 0 rfl,Row.cell_at h 1 rfl,Row.cell_at h 2 rfl,Row.cell_at h 3 rfl,Row.cell_at h 4 rfl,Row.cell_at h 5 rfl,Row.cell_at h 6 rfl,Row.cell_at h 7 rfl,Row.cell_at h 8 rfl,Row.cell_at h 9 rfl⟩
 have sb0:=Fb0 _ rb0
 have sh:=RFz3 rh
 refine (A1 _ _ (PA _ _ rb0) (he.below hB)).mono ?_
 rintro e W5 ⟨rfl,h1⟩
 clear sb0
 clear sh
 replace hB:=hB.trans (h1.mono hB.size)
 replace rb0:=Row.below rb0 h1
 replace rh:=Row.below rh h1
 clear h1
 have sb0:=Fb0 _ rb0
 have sh:=RFz3 rh
 go_wp2_with fail
 have dh_ka:W3.heap.size+1<W5.heap.size:=by omega
 have sB:=hB.size
 refine world_cut (fun X=>Below w.heap.size w X∧Row X W3.heap.size (.cells #[.int .i64 0,.string (S a.iv.lo.num),.string (S (a.iv.lo.den:Int)),.string (S a.iv.hi.num),.string (S (a.iv.hi.den:Int)),.int .i64 20,.string (S b.iv.lo.num),.string (S (b.iv.lo.den:Int)),.string (S b.iv.hi.num),.string (S (b.iv.hi.den:Int))] 32)∧Row X (W3.heap.size+1) (.cells #[.string (S r.num),.string (S (r.den:Int)),.slice (some ⟨W3.heap.size,0,none⟩) 2 2] 26)∧Row X W5.heap.size (.cells #[.string (S o1.lo.num),.string (S (o1.lo.den:Int)),.string (S o1.hi.num),.string (S (o1.hi.den:Int))] 30)) ⟨BW,RWh,RWh,RWh⟩ ?_
 clear rb0
 clear sb0
 clear rh
 clear sh
 clear hB sB
 rintro V6 ⟨hB,rb0,rh,rka⟩
 have sb0:=Fb0 _ rb0
 have sh:=RFz3 rh
 have ska:=RF4 rka
 refine (A2 _ _ (PA _ _ rb0) (he.below hB)).mono ?_
 rintro e W7 ⟨rfl,h1⟩
 clear sb0
 clear sh
 clear ska
 replace hB:=hB.trans (h1.mono hB.size)
 replace rb0:=Row.below rb0 h1
 replace rh:=Row.below rh h1
 replace rka:=Row.below rka h1
 clear h1
 have sb0:=Fb0 _ rb0
 have sh:=RFz3 rh
 have ska:=RF4 rka
 go_wp2_with fail
 have dh_kb:W3.heap.size+1<W7.heap.size:=by omega
 have sB:=hB.size
 refine wp_cut (fun X=>Below w.heap.size w X∧Row X W3.heap.size (.cells #[.int .i64 0,.string (S a.iv.lo.num),.string (S (a.iv.lo.den:Int)),.string (S a.iv.hi.num),.string (S (a.iv.hi.den:Int)),.int .i64 20,.string (S b.iv.lo.num),.string (S (b.iv.lo.den:Int)),.string (S b.iv.hi.num),.string (S (b.iv.hi.den:Int))] 32)∧Row X (W3.heap.size+1) (.cells #[.string (S r.num),.string (S (r.den:Int)),.slice (some ⟨W3.heap.size,0,none⟩) 2 2] 26)∧Row X W5.heap.size (.cells #[.string (S o1.lo.num),.string (S (o1.lo.den:Int)),.string (S o1.hi.num),.string (S (o1.hi.den:Int))] 30)∧Row X W7.heap.size (.cells #[.string (S o2.lo.num),.string (S (o2.lo.den:Int)),.string (S o2.hi.num),.string (S (o2.hi.den:Int))] 30)) ⟨BW,RWh,RWh,RWh,RWh⟩ ?_
 clear rb0
 clear sb0
 clear rh
 clear sh
 clear rka
 clear ska
 clear hB sB
 rintro V8 ⟨hB,rb0,rh,rka,rkb⟩
 have sb0:=Fb0 _ rb0
 have sh:=RFz3 rh
 have ska:=RF4 rka
 have skb:=RF4 rkb
 have db0_more:=rb0.1
 have dh_more:=rh.1
 have dka_more:=rka.1
 have dkb_more:=rkb.1
 have d0_more:=hB.size
 refine wp_region_late 8 [6] [.val (.agg #[.string (S r.num),.string (S (r.den:Int)),.slice (some ⟨W3.heap.size,0,none⟩) 2 2]),.val (.agg #[.string (S c.iv.lo.num),.string (S (c.iv.lo.den:Int)),.string (S c.iv.hi.num),.string (S (c.iv.hi.den:Int))]),.val (.agg #[.int .i64 10,.string (S c.iv.lo.num),.string (S (c.iv.lo.den:Int)),.string (S c.iv.hi.num),.string (S (c.iv.hi.den:Int))]),.say (SayAdd r [a,c,b]),.say (SayAdd r [a,c,b]),.say (SayHist r [a,c,b]),.val (.int .i64 0),.say (fresh _ (.cells #[.string ⟨#[]⟩,.string ⟨#[]⟩,.slice none 0 0] 26))] [6] (by kernel_rfl) (by kernel_rfl) (by kernel_rfl) rfl ⟨SayAdd.mono _ _,⟨SayAdd.mono _ _,⟨SayHist.mono _ _,⟨fresh_mono _ _,trivial⟩⟩⟩⟩ (allItems.cons (qi1 fun X h=>RFz3 (Row.below rh h)) (allItems.cons (qi2 fun X h=>Mc X (he.below (hB.trans (h.mono hB.size)))) (allItems.cons qi0 (allItems.cons (qi3 fun X h=>MD X _ (PA _ _ (Row.below rb0 h)) (he.below (hB.trans (h.mono hB.size)))) (allItems.cons (by intro ρ X qX qc qg qf qt qd;simp [depsSay,itemSp,QItem.sp,Region.binds] at qd;simp [Region.wanted,yieldedBy,quietly,QItem.sp,execOp,go_sem,foreign,qc,qd,qt,qf,Below.refl]) (allItems.cons (by intro ρ X qX qc qg qf qt qd;simp [depsSay,itemSp,QItem.sp,Region.binds] at qd;obtain ⟨p,c,e,h1,h2⟩:=qd;simp [Region.wanted,yieldedBy,quietly,QItem.sp,execOp,go_sem,foreign,qc,qt,qf,Below.refl,e];exact ⟨p,c,rfl,h1,h2⟩) (allItems.cons (qId (by intro ρ X qX qc qg qf qt qd;simp [depsSay,itemSp,QItem.sp,Region.binds] at qd;obtain ⟨p,c,e,h1,h2⟩:=qd;simp [Region.wanted,yieldedBy,quietly,QItem.sp,execOp,go_sem,foreign,qc,qt,qf,Below.refl,e])) (allItems.cons qia trivial)))))))) ?_
 rintro W h1
 clear sb0
 clear sh
 clear ska
 clear skb
 replace hB:=hB.trans (h1.mono hB.size)
 replace rb0:=Row.below rb0 h1
 replace rh:=Row.below rh h1
 replace rka:=Row.below rka h1
 replace rkb:=Row.below rkb h1
 clear h1
 have sb0:=Fb0 _ rb0
 have sh:=RFz3 rh
 have ska:=RF4 rka
 have skb:=RF4 rkb
 simp only [setItems,List.setIfInBounds_toArray,List.set_cons_succ,List.set_cons_zero,List.take_succ_cons,List.take_zero,List.drop_succ_cons,List.drop_zero]
 rintro _ ⟨p1,c1,rfl,hp1,hc1⟩
 rintro _ ⟨p2,c2,rfl,hp2,hc2⟩
 rintro _ ⟨p3,c3,rfl,hp3,hc3⟩
 rintro _ ⟨pmore,rfl,hmore,rmore⟩
 replace db0_more:=Nat.lt_of_lt_of_le db0_more hmore
 replace dh_more:=Nat.lt_of_lt_of_le dh_more hmore
 replace dka_more:=Nat.lt_of_lt_of_le dka_more hmore
 replace dkb_more:=Nat.lt_of_lt_of_le dkb_more hmore
 replace d0_more:=Nat.le_trans d0_more hmore
 have smore:=RFz3 rmore
 intro _
 go_wp2_with fail
 unfold normalQ
 clear hp1 hp2 hc1 hc2 hc3
 go_wp2_with fail
 have sB:=hB.size
 refine world_cut (fun X=>Below w.heap.size w X∧Row X W3.heap.size (.cells #[.int .i64 0,.string (S a.iv.lo.num),.string (S (a.iv.lo.den:Int)),.string (S a.iv.hi.num),.string (S (a.iv.hi.den:Int)),.int .i64 20,.string (S b.iv.lo.num),.string (S (b.iv.lo.den:Int)),.string (S b.iv.hi.num),.string (S (b.iv.hi.den:Int))] 32)∧Row X (W3.heap.size+1) (.cells #[.string (S r.num),.string (S (r.den:Int)),.slice (some ⟨W3.heap.size,0,none⟩) 2 2] 26)∧Row X W5.heap.size (.cells #[.string (S o1.lo.num),.string (S (o1.lo.den:Int)),.string (S o1.hi.num),.string (S (o1.hi.den:Int))] 30)∧Row X W7.heap.size (.cells #[.string (S o2.lo.num),.string (S (o2.lo.den:Int)),.string (S o2.hi.num),.string (S (o2.hi.den:Int))] 30)∧Row X pmore (.cells #[.string (S r.num),.string (S (r.den:Int)),.slice p3 3 c3] 26)∧PAt X p3 [a,c,b]) ⟨BW,RWh,RWh,RWh,RWh,RWh,(by first | exact pat_set3 hp3 rmore (by decide) | exact PAt.below hp3 BW)⟩ ?_
 clear rb0
 clear sb0
 clear rh
 clear sh
 clear rka
 clear ska
 clear rkb
 clear skb
 clear rmore
 clear smore
 clear hB sB hp3
 rintro V9 ⟨hB,rb0,rh,rka,rkb,rmore,hp3⟩
 have sb0:=Fb0 _ rb0
 have sh:=RFz3 rh
 have ska:=RF4 rka
 have skb:=RF4 rkb
 skip
 have smore:=RFz3 rmore
 refine (MC _ _ _ hp3 (he.below hB)).mono ?_
 rintro e W10 ⟨v,hown,rfl,h1⟩
 clear sb0
 clear sh
 clear ska
 clear skb
 clear smore
 replace hB:=hB.trans (h1.mono hB.size)
 replace rb0:=Row.below rb0 h1
 replace rh:=Row.below rh h1
 replace rka:=Row.below rka h1
 replace rkb:=Row.below rkb h1
 replace rmore:=Row.below rmore h1
 replace hp3:=PAt.below hp3 h1
 clear h1
 have sb0:=Fb0 _ rb0
 have sh:=RFz3 rh
 have ska:=RF4 rka
 have skb:=RF4 rkb
 have smore:=RFz3 rmore
 obtain ⟨g,cg,cur,rfl,rcg,hx⟩:=own_pair hown
 clear hown
 have Fcg:∀ X,Row X g (.cells cur 27)→(g<X.heap.size∧X.cell? ⟨g,0,none⟩=some (.int .i64 0)∧X.cell? ⟨g,1,none⟩=some (.int .i64 1)):=fun X h=>⟨h.1,Row.cell_take h hx rfl,Row.cell_take h hx rfl⟩
 have scg:=Fcg _ rcg
 go_wp2_with fail
 clear rmore
 clear smore
 skip
 refine (A3 _ _ _ hp3 (he.below hB)).mono ?_
 rintro e W11 ⟨rfl,h1⟩
 clear sb0
 clear sh
 clear ska
 clear skb
 clear scg
 replace hB:=hB.trans (h1.mono hB.size)
 replace rb0:=Row.below rb0 h1
 replace rh:=Row.below rh h1
 replace rka:=Row.below rka h1
 replace rkb:=Row.below rkb h1
 replace rcg:=Row.below rcg h1
 replace hp3:=PAt.below hp3 h1
 clear h1
 have sb0:=Fb0 _ rb0
 have sh:=RFz3 rh
 have ska:=RF4 rka
 have skb:=RF4 rkb
 have scg:=Fcg _ rcg
 go_wp2_with fail
 have sB:=hB.size
 refine wp_cut (fun X=>Below w.heap.size w X∧Row X W3.heap.size (.cells #[.int .i64 0,.string (S a.iv.lo.num),.string (S (a.iv.lo.den:Int)),.string (S a.iv.hi.num),.string (S (a.iv.hi.den:Int)),.int .i64 20,.string (S b.iv.lo.num),.string (S (b.iv.lo.den:Int)),.string (S b.iv.hi.num),.string (S (b.iv.hi.den:Int))] 32)∧Row X (W3.heap.size+1) (.cells #[.string (S r.num),.string (S (r.den:Int)),.slice (some ⟨W3.heap.size,0,none⟩) 2 2] 26)∧Row X W5.heap.size (.cells #[.string (S o1.lo.num),.string (S (o1.lo.den:Int)),.string (S o1.hi.num),.string (S (o1.hi.den:Int))] 30)∧Row X W7.heap.size (.cells #[.string (S o2.lo.num),.string (S (o2.lo.den:Int)),.string (S o2.hi.num),.string (S (o2.hi.den:Int))] 30)∧Row X g (.cells cur 27)∧PAt X p3 [a,c,b]) ⟨BW,RWh,RWh,RWh,RWh,RWh,(by first | exact pat_set3 hp3 rmore (by decide) | exact PAt.below hp3 BW)⟩ ?_
 clear rb0
 clear sb0
 clear rh
 clear sh
 clear rka
 clear ska
 clear rkb
 clear skb
 clear rcg
 clear scg
 clear hB sB hp3
 rintro V12 ⟨hB,rb0,rh,rka,rkb,rcg,hp3⟩
 have sb0:=Fb0 _ rb0
 have sh:=RFz3 rh
 have ska:=RF4 rka
 have skb:=RF4 rkb
 have scg:=Fcg _ rcg
 refine wp_region_vals [.agg #[.string (S r.num),.string (S (r.den:Int)),.slice (some ⟨W3.heap.size,0,none⟩) 2 2],.agg #[.string (S q4.num),.string (S (q4.den:Int))],.tuple #[.int .i64 30,.bool true],.tuple #[.int .i64 30,.bool true],.int .i64 30,.bool true,.int .i64 30,.bool true] (by kernel_rfl) (by kernel_rfl) rfl (allVals.cons (qv1 fun X h=>RFz3 (Row.below rh h)) (allVals.cons (qv2 fun X h=>M4 X (he.below (hB.trans (h.mono hB.size)))) (allVals.cons (qv2 fun X h=>U1 X _ (PA _ _ (Row.below rb0 h)) (he.below (hB.trans (h.mono hB.size)))) (allVals.cons qv0 (allVals.cons qv0 (allVals.cons qv0 (allVals.cons qv0 (allVals.cons qv0 trivial)))))))) ?_
 rintro W h1
 clear sb0
 clear sh
 clear ska
 clear skb
 clear scg
 replace hB:=hB.trans (h1.mono hB.size)
 replace rb0:=Row.below rb0 h1
 replace rh:=Row.below rh h1
 replace rka:=Row.below rka h1
 replace rkb:=Row.below rkb h1
 replace rcg:=Row.below rcg h1
 replace hp3:=PAt.below hp3 h1
 clear h1
 have sb0:=Fb0 _ rb0
 have sh:=RFz3 rh
 have ska:=RF4 rka
 have skb:=RF4 rkb
 have scg:=Fcg _ rcg
 simp only [setVals,List.setIfInBounds_toArray,List.set_cons_succ,List.set_cons_zero]
 go_wp2_with fail
 refine wp_region_vals [.agg #[.string (S r.num),.string (S (r.den:Int)),.slice (some ⟨W3.heap.size,0,none⟩) 2 2],.agg #[.string (S q1.num),.string (S (q1.den:Int))],.tuple #[.int .i64 0,.bool false],.tuple #[.int .i64 0,.bool false],.int .i64 0,.bool false,.int .i64 0,.bool false] (by kernel_rfl) (by kernel_rfl) rfl (allVals.cons (qv1 fun X h=>RFz3 (Row.below rh h)) (allVals.cons (qv2 fun X h=>M1 X (he.below (hB.trans (h.mono hB.size)))) (allVals.cons (qv2 fun X h=>U2 X _ (PA _ _ (Row.below rb0 h)) (he.below (hB.trans (h.mono hB.size)))) (allVals.cons qv0 (allVals.cons qv0 (allVals.cons qv0 (allVals.cons qv0 (allVals.cons qv0 trivial)))))))) ?_
 rintro W h1
 clear sb0
 clear sh
 clear ska
 clear skb
 clear scg
 replace hB:=hB.trans (h1.mono hB.size)
 replace rb0:=Row.below rb0 h1
 replace rh:=Row.below rh h1
 replace rka:=Row.below rka h1
 replace rkb:=Row.below rkb h1
 replace rcg:=Row.below rcg h1
 replace hp3:=PAt.below hp3 h1
 clear h1
 have sb0:=Fb0 _ rb0
 have sh:=RFz3 rh
 have ska:=RF4 rka
 have skb:=RF4 rkb
 have scg:=Fcg _ rcg
 simp only [setVals,List.setIfInBounds_toArray,List.set_cons_succ,List.set_cons_zero]
 go_wp2_with fail
 refine wp_region_items 50 [.val (.bool true),.val (.bool true),.val (.agg #[.string (S o1.lo.num),.string (S (o1.lo.den:Int)),.string (S o1.hi.num),.string (S (o1.hi.den:Int))]),.val (.agg #[.string (S o1.lo.num),.string (S (o1.lo.den:Int)),.string (S o1.hi.num),.string (S (o1.hi.den:Int))]),.val (.bool true),.val (.bool true),.val (.bool true),.val (.agg #[.string (S o2.lo.num),.string (S (o2.lo.den:Int)),.string (S o2.hi.num),.string (S (o2.hi.den:Int))]),.val (.agg #[.string (S o2.lo.num),.string (S (o2.lo.den:Int)),.string (S o2.hi.num),.string (S (o2.hi.den:Int))]),.val (.bool true),.val (.bool true),.val (.bool true),.val (.slice (some ⟨g,0,none⟩) 1 cg),.val (.int .i64 1),.val (.bool true),.val (.bool true),.val (.bool true),.val (.slice (some ⟨g,0,none⟩) 1 cg),.val (.pointer (some ⟨g,0,none⟩)),.val (.agg #[.int .i64 0,.int .i64 1]),.val (.agg #[.int .i64 0,.int .i64 1]),.val (.bool true),.val (.bool true),.val (.bool true),.val (.int .i64 30),.val (.bool true),.val (.bool true),.val (.bool true),.val (.bool true),.val (.bool true),.val (.bool true),.val (.bool false),.val (.bool true),.val (.bool true),.val (.bool true),.val (.agg #[.string (S r.num),.string (S (r.den:Int)),.slice (some ⟨W3.heap.size,0,none⟩) 2 2]),.val (.bool true),.val (.bool true),.val (.bool true),.val (.agg #[.string ⟨#[]⟩,.string ⟨#[]⟩,.slice none 0 0]),.val (.bool false),.val (.bool true),.val (.bool true),.val (.bool true),.val (.agg #[.string (S r.num),.string (S (r.den:Int)),.slice (some ⟨W3.heap.size,0,none⟩) 2 2]),.say (SayHist r [a]),.say (SaySl 1),.val (.int .i64 1),.val (.bool true),.val (.bool true)] (by kernel_rfl) (by kernel_rfl) (by simp only [itemsMono];exact ⟨SayHist.mono _ _,⟨SaySl.mono _,trivial⟩⟩) (allItems.cons qi0 (allItems.cons qi0 (allItems.cons (qi1 fun X h=>RF4 (Row.below rka h)) (allItems.cons (qi2 fun X h=>Mo1 X (he.below (hB.trans (h.mono hB.size)))) (allItems.cons qi0 (allItems.cons qi0 (allItems.cons qi0 (allItems.cons (qi1 fun X h=>RF4 (Row.below rkb h)) (allItems.cons (qi2 fun X h=>Mo2 X (he.below (hB.trans (h.mono hB.size)))) (allItems.cons qi0 (allItems.cons qi0 (allItems.cons qi0 (allItems.cons qi0 (allItems.cons qi0 (allItems.cons qi0 (allItems.cons qi0 (allItems.cons qi0 (allItems.cons qi0 (allItems.cons qi0 (allItems.cons (qi1 fun X h=>Fcg X (Row.below rcg h)) (allItems.cons qi0 (allItems.cons (qif E50) (allItems.cons qi0 (allItems.cons qi0 (allItems.cons qi0 (allItems.cons qi0 (allItems.cons qi0 (allItems.cons qi0 (allItems.cons qi0 (allItems.cons qi0 (allItems.cons qi0 (allItems.cons qi0 (allItems.cons qi0 (allItems.cons qi0 (allItems.cons qi0 (allItems.cons (qi1 fun X h=>RFz3 (Row.below rh h)) (allItems.cons (qi2 fun X h=>MV X _ (PA _ _ (Row.below rb0 h)) (he.below (hB.trans (h.mono hB.size)))) (allItems.cons qi0 (allItems.cons qi0 (allItems.cons qi0 (allItems.cons (qi2 fun X h=>MZ X) (allItems.cons qi0 (allItems.cons qi0 (allItems.cons qi0 (allItems.cons (qi1 fun X h=>RFz3 (Row.below rh h)) (allItems.cons (qi3 fun X h=>MK X _ (PA _ _ (Row.below rb0 h)) (he.below (hB.trans (h.mono hB.size)))) (allItems.cons (by intro ρ X qX qc qg qf qt qd;simp [depsSay,itemSp,QItem.sp,Region.binds] at qd;obtain ⟨⟨p,c,e,h1,h2⟩,e2⟩:=qd;simp only [List.length_cons,List.length_nil] at e;simp [Region.wanted,yieldedBy,quietly,QItem.sp,execOp,go_sem,foreign,qc,qt,qf,Below.refl,e,e2,FX];exact ⟨p,c,rfl⟩) (allItems.cons (qId (by intro ρ X qX qc qg qf qt qd;simp [depsSay,itemSp,QItem.sp,Region.binds] at qd;obtain ⟨⟨p,c,e⟩,e2⟩:=qd;simp [Region.wanted,yieldedBy,quietly,QItem.sp,execOp,go_sem,foreign,qc,qt,qf,Below.refl,e,e2])) (allItems.cons qi0 (allItems.cons qi0 trivial)))))))))))))))))))))))))))))))))))))))))))))))))) ?_
 rintro W h1
 clear sb0
 clear sh
 clear ska
 clear skb
 clear scg
 replace hB:=hB.trans (h1.mono hB.size)
 replace rb0:=Row.below rb0 h1
 replace rh:=Row.below rh h1
 replace rka:=Row.below rka h1
 replace rkb:=Row.below rkb h1
 replace rcg:=Row.below rcg h1
 replace hp3:=PAt.below hp3 h1
 clear h1
 have sb0:=Fb0 _ rb0
 have sh:=RFz3 rh
 have ska:=RF4 rka
 have skb:=RF4 rkb
 have scg:=Fcg _ rcg
 simp only [setItems,List.setIfInBounds_toArray,List.set_cons_succ,List.set_cons_zero,List.take_succ_cons,List.take_zero,List.drop_succ_cons,List.drop_zero]
 rintro _ ⟨p4,c4,rfl,_,_⟩
 rintro _ ⟨p5,c5,rfl⟩
 go_wp2
 go_ret
 exact ⟨rfl,hB⟩
end Go.Proofs.YtnokpldomlmamaaGreatDoor
