/-
 drift.Until at valid histories: what its answer is. Histories that integers determine; small fractions and intervals of the drift laws.
-/
import Derived.Test.YtnokpldomlmamaaGreatDoorODUntil
import Derived.Test.YtnokpldomlmamaaGreatDoorOR12Add
import Derived.Test.YtnokpldomlmamaaGreatDoorOTail
set_option linter.unusedSimpArgs false
set_option linter.unusedVariables false
set_option maxRecDepth 100000
set_option maxHeartbeats 16000000
namespace Go.Proofs.YtnokpldomlmamaaGreatDoor
open Go Go.RowKit Go.Lib Go.Shelf
theorem own_pat {W:World} {n k c:Nat} {p:Option Addr} {l:List Pt} (h:W.ownsRow n 32 5 (.slice p k c) k (pCells l)) (hl:l.length=k):PAt W p l:=by
 subst hl
 obtain ⟨p3,c3,e3,_,_,h3⟩:=PRow.open (own_row h)
 injection e3 with e5
 subst e5
 exact h3
theorem duntil {r wd:Rat} {l:List Pt} (ho:Hist.Ok ⟨r,l⟩) {f:Nat} (hf:f≤1000000) (hwd:QDig 200 wd) (p:Option Addr) (m c:Nat) (hm:l.length=m) (hmc:m≤c) (w:World) (hp:PAt w p l) (he:Env w) :
  Calls Tryz.prog 13 #[.agg #[.string (S r.num),.string (S (r.den:Int)),.slice p m c],.int .i64 (f:Int),.agg #[.string (S wd.num),.string (S (wd.den:Int))]] w
   fun e w'=>∃ (n:Nat) (b:Bool),UntilIs (known ⟨r,l⟩ f) f wd n b∧e = .returned (.tuple #[.int .i64 (n:Int),.bool b])∧Below w.heap.size w w':=by
 have hok:=known_ok ho (f:Int)
 have htm:=known_times ⟨r,l⟩ ho (f:Int)
 unfold known at hok htm ⊢
 simp only at hok htm ⊢
 have KV:∀ W,Below w.heap.size w W→Calls Tryz.prog 16 #[.agg #[.string (S r.num),.string (S (r.den:Int)),.slice p m c],.int .i64 (f:Int)] W fun e w'=>∃ p2 c2,w'.ownsRow W.heap.size 32 5 (.slice p2 (upTo l f) c2) (upTo l f) (pCells (l.take (upTo l f)))∧e = .returned (.agg #[.string (S r.num),.string (S (r.den:Int)),.slice p2 (upTo l f) c2])∧Below W.heap.size W w':=fun W hW =>
  dknown (f:Int) ho p m c hm hmc W (hp.below hW) (he.below hW)
 have HV:∀ W,Below w.heap.size w W→Calls Tryz.prog 58 #[.agg #[.string (S wd.num),.string (S (wd.den:Int))]] W (BoolOk true W):=fun W hW=>qvalid wd hwd W (he.below hW)
 have hlk:(l.take (upTo l f)).length=upTo l f:=by rw [List.length_take,Nat.min_eq_left (upTo_le l _)]
 have hfu:∀ q,q ∈ l.take (upTo l f)→q.t≤f:=fun q hq=>by have:=htm q hq;omega
 generalize l.take (upTo l f)=lk at *
 generalize upTo l f=k at *
 have wide:(∀ p2 c2 bh bf bw n W,W.ownsRow n 32 5 (.slice p2 k c2) k (pCells lk)→Row W bh (.cells #[.string (S r.num),.string (S (r.den:Int)),.slice p2 k c2] 26)→Row W bf (.cells #[.int .i64 (f:Int)] 3)→Row W bw (.cells #[.string (S wd.num),.string (S (wd.den:Int))] 23)→Below w.heap.size w W →
   Calls Tryz.prog 57 #[.int .i64 0,.pointer (some ⟨bh,0,none⟩),.pointer (some ⟨bf,0,none⟩),.pointer (some ⟨bw,0,none⟩)] W (BoolOk true W))→UntilIs ⟨r,lk⟩ f wd 0 false →
   Calls Tryz.prog 13 #[.agg #[.string (S r.num),.string (S (r.den:Int)),.slice p m c],.int .i64 (f:Int),.agg #[.string (S wd.num),.string (S (wd.den:Int))]] w
   fun e w'=>∃ (n:Nat) (b:Bool),UntilIs ⟨r,lk⟩ f wd n b∧e = .returned (.tuple #[.int .i64 (n:Int),.bool b])∧Below w.heap.size w w':=fun HI hu =>
  (duntil_wide hf _ _ _ _ _ _ p m c k (pCells lk) w KV HV HI).mono fun e w' ⟨h1,h2⟩=>⟨0,false,hu,h1,h2⟩
 have he2:∀ W,Below w.heap.size w W→Env W:=fun W h=>he.below h
 by_cases hne:lk=[]
 ·subst hne
  obtain rfl:k=0:=hlk.symm
  refine wide (fun p2 c2 bh bf bw n W hown rh rf rwd hW => ?_) (.none (.inl rfl))
  exact iswide_bad (f:=f) (n:=0) (by omega) _ _ _ _ p2 0 c2 bh bf bw W (fun X hX=>dat_empty hok _ p2 c2 X (own_pat (own_later hown hX) rfl) (he2 X (hW.trans (hX.mono hW.size)))) rh rf rwd
 ·have hpos:0<k:=by
   rcases Nat.eq_zero_or_pos k with h | h
   ·exact absurd (List.length_eq_zero_iff.1 (hlk.trans h)) hne
   ·exact h
  by_cases hfr:Free ⟨r,lk⟩
  ·obtain ⟨o0,hk0⟩:=exists_knows ⟨r,lk⟩ f hne
   have ISW:∀ p2 c2 bh bf bw n i W,f+i≤1000000→W.ownsRow n 32 5 (.slice p2 k c2) k (pCells lk)→Row W bh (.cells #[.string (S r.num),.string (S (r.den:Int)),.slice p2 k c2] 26)→Row W bf (.cells #[.int .i64 (f:Int)] 3)→Row W bw (.cells #[.string (S wd.num),.string (S (wd.den:Int))] 23)→Below w.heap.size w W →
     Calls Tryz.prog 57 #[.int .i64 (i:Int),.pointer (some ⟨bh,0,none⟩),.pointer (some ⟨bf,0,none⟩),.pointer (some ⟨bw,0,none⟩)] W (BoolOk (decide (0<cmpQ (o0.hi - o0.lo+far r (2 * i)) wd)) W):=fun p2 c2 bh bf bw n i W hi hown rh rf rwd hW =>
    iswide_ok hok hfr hi hk0 hfu hwd p2 k c2 hlk hpos bh bf bw W W (own_pat hown hlk) (Below.refl _ _) (he2 W hW) rh rf rwd
   by_cases hw0:wd<o0.hi - o0.lo
   ·refine wide (fun p2 c2 bh bf bw n W hown rh rf rwd hW => ?_) (.wide hne hfr hk0 hw0)
    have:=ISW p2 c2 bh bf bw n 0 W (by omega) hown rh rf rwd hW
    rw [Nat.mul_zero,far_zero,decide_eq_true (cmpQ_gt.2 (by grind))] at this
    exact this
   ·refine (duntil_last hf (fun i=>decide (0<cmpQ (o0.hi - o0.lo+far r (2 * i)) wd)) ?_ ?_ _ _ _ _ _ _ p m c k (pCells lk) w KV HV ISW).mono ?_
    ·simp only [Nat.mul_zero,far_zero]
     exact decide_eq_false (fun h=>hw0 (by have:=cmpQ_gt.1 h;grind))
    ·intro a b hab hb h
     simp only [decide_eq_true_eq,cmpQ_gt] at h ⊢
     have:=far_mono hok.rate (show 2 * (a+1)≤2 * (b+1) by omega)
     simp only at this
     grind
    ·rintro e w' ⟨N,hN,hlo,hhi,rfl,hB⟩
     refine ⟨f+N,true,?_,by push_cast;rfl,hB⟩
     refine UntilIs.of_search hne hfr hk0 (Rat.not_lt.1 hw0) hN hf (fun j hj => ?_) (fun j hj hj2 => ?_)
     ·have:=hlo j hj
      simp only [decide_eq_false_iff_not,cmpQ_gt] at this
      exact this
     ·have:=hhi j hj hj2
      simp only [decide_eq_true_eq,cmpQ_gt] at this
      exact this
  ·refine wide (fun p2 c2 bh bf bw n W hown rh rf rwd hW => ?_) (.none (.inr hfr))
   exact iswide_bad (f:=f) (n:=0) (by omega) _ _ _ _ p2 k c2 bh bf bw W (fun X hX=>dat_bad hok hfr (t:=f+0) (by omega) p2 k c2 hlk hpos X (own_pat (own_later hown hX) hlk) (he2 X (hW.trans (hX.mono hW.size)))) rh rf rwd
end Go.Proofs.YtnokpldomlmamaaGreatDoor
namespace Go.Proofs.YtnokpldomlmamaaGreatDoor
open Go Go.RowKit Go.Lib Go.Shelf
attribute [local go_sem] normalQ
theorem Row.set3ab {W:World} {b:Nat} {v0 v1 v2 u0 u1:Value} {t:TypeId} (h:Row W b (.cells #[v0,v1,v2] t)):Row ((W.setCell ⟨b,0,none⟩ u0).setCell ⟨b,1,none⟩ u1) b (.cells #[u0,u1,v2] t):=(h.set_same rfl).set_same rfl
theorem Row.set3c {W:World} {b:Nat} {v0 v1 v2 u2:Value} {t:TypeId} (h:Row W b (.cells #[v0,v1,v2] t)):Row (W.setCell ⟨b,2,none⟩ u2) b (.cells #[v0,v1,u2] t):=h.set_same rfl
theorem Row.set5bc {W:World} {b:Nat} {v0 v1 v2 v3 v4 u1 u2:Value} {t:TypeId} (h:Row W b (.cells #[v0,v1,v2,v3,v4] t)):Row ((W.setCell ⟨b,1,none⟩ u1).setCell ⟨b,2,none⟩ u2) b (.cells #[v0,u1,u2,v3,v4] t):=(h.set_same rfl).set_same rfl
theorem Row.set5de {W:World} {b:Nat} {v0 v1 v2 v3 v4 u3 u4:Value} {t:TypeId} (h:Row W b (.cells #[v0,v1,v2,v3,v4] t)):Row ((W.setCell ⟨b,3,none⟩ u3).setCell ⟨b,4,none⟩ u4) b (.cells #[v0,v1,v2,u3,u4] t):=(h.set_same rfl).set_same rfl
theorem RWk {P:Prop} (h:P:=by repeat (first | (with_reducible assumption) | (with_reducible exact row_new' (by first | omega | (simp;done) | (simp;omega))) | (with_reducible refine Row.drew ?_) | (with_reducible refine Row.drewN ?_ _) | (with_reducible refine Row.alloc ?_ _) | (with_reducible apply Row.set5) | (with_reducible apply Row.set4) | (with_reducible apply Row.set3) | (with_reducible apply Row.set3ab) | (with_reducible apply Row.set3c) | (with_reducible apply Row.set5bc) | (with_reducible apply Row.set5de) | (with_reducible apply Row.set4a) | (with_reducible apply Row.set4b) | (with_reducible apply Row.set2) | (with_reducible apply Row.set1) | (with_reducible apply Row.set2a) | (with_reducible apply Row.set2b) | (with_reducible refine Row.set_other ?_ _ (by first | omega | (simp;done) | (simp;omega))))):P:=h
theorem pick12 (c n:Int) (hc:IsInt c) (hn:0<n) (w:World):Calls Tryz.prog 49 #[.int .i64 c,.int .i64 n] w fun e w'=>e = .returned (.int .i64 (pk c n))∧Below w.heap.size w w':=by
 obtain ⟨c0,c1⟩:=hc
 have nz:¬ n=0:=by omega
 by_cases h:c<0
 ·have e : -((c+1).tmod n)=pk c n:=by unfold pk;rw [if_pos h,← Int.neg_tmod,Int.tmod_eq_emod_of_nonneg (by omega)]
  have E:=Lib.hid e
  clear e
  go_enter Tryz.func49, Tryz.ntmps49
  go_wp2
  go_ret
  refine ⟨?_,Below.refl _ _⟩
  rw [← E.out]
  rfl
 ·have e:c.tmod n=pk c n:=by unfold pk;rw [if_neg h,Int.tmod_eq_emod_of_nonneg (by omega)]
  have E:=Lib.hid e
  clear e
  go_enter Tryz.func49, Tryz.ntmps49
  go_wp2
  go_ret
  refine ⟨?_,Below.refl _ _⟩
  rw [← E.out]
  first | rfl | (rw [Int.tmod_eq_emod_of_nonneg (by omega)];rfl)
theorem pickL12 (c n:Int) (hc:IsInt c) (hn:0<n) (w:World):Calls Tryz.prog 10 #[.int .i64 c,.int .i64 n] w fun e w'=>e = .returned (.int .i64 (pk c n))∧Below w.heap.size w w':=by
 obtain ⟨c0,c1⟩:=hc
 have nz:¬ n=0:=by omega
 by_cases h:c<0
 ·have e : -((c+1).tmod n)=pk c n:=by unfold pk;rw [if_pos h,← Int.neg_tmod,Int.tmod_eq_emod_of_nonneg (by omega)]
  have E:=Lib.hid e
  clear e
  go_enter Tryz.func10, Tryz.ntmps10
  go_wp2
  go_ret
  refine ⟨?_,Below.refl _ _⟩
  rw [← E.out]
  rfl
 ·have e:c.tmod n=pk c n:=by unfold pk;rw [if_neg h,Int.tmod_eq_emod_of_nonneg (by omega)]
  have E:=Lib.hid e
  clear e
  go_enter Tryz.func10, Tryz.ntmps10
  go_wp2
  go_ret
  refine ⟨?_,Below.refl _ _⟩
  rw [← E.out]
  first | rfl | (rw [Int.tmod_eq_emod_of_nonneg (by omega)];rfl)
theorem lof {n d:Int} (hn:IsInt n) (hd:IsInt d) (hd0:0<d) (w:World) (he:Env w):Calls Tryz.prog 46 #[.int .i64 n,.int .i64 d] w (fun e w'=>e = .returned (Q (Rat.divInt n d))∧Below w.heap.size w w'):=by
 have hB:Below w.heap.size w w:=Below.refl _ _
 have MO:=fun W (H:Env W)=>qof hn hd hd0 W H
 unfold QOk at MO
 unfold Q at *
 generalize Rat.divInt n d=q at *
 go_enter Tryz.func46, Tryz.ntmps46
 go_wp2_with fail
 have d0_o:w.heap.size≤w.heap.size:=by have:=hB.size;omega
 have sB:=hB.size
 refine world_cut (fun X=>Below w.heap.size w X∧Row X w.heap.size (.cells #[.string ⟨#[]⟩,.string ⟨#[]⟩] 23)) ⟨BW,RWk⟩ ?_
 clear hB sB
 rintro V1 ⟨hB,ro⟩
 have so:=RFz2 ro
 refine (MO _ (he.below hB)).mono ?_
 rintro e W2 ⟨rfl,h1⟩
 have stp:=St1 hB h1 ro;clear hB h1 ro so
 obtain ⟨hB,ro⟩:=stp
 have so:=RFz2 ro
 go_wp2_with fail
 have sB:=hB.size
 refine post_cut (fun X=>Below w.heap.size w X∧Row X w.heap.size (.cells #[.string (S q.num),.string (S (q.den:Int))] 23)) ⟨BW,RWk⟩ ?_
 clear ro
 clear so
 clear hB sB
 rintro V3 ⟨hB,ro⟩
 have so:=RFz2 ro
 refine bodyPost_ret (v := .agg #[.string (S q.num),.string (S (q.den:Int))]) ?res rfl ⟨rfl,hB⟩
 case res=>simp [results,Tryz.results46, go_sem,so]
theorem linterval {n m d:Int} (hn:IsInt n) (hm:IsInt m) (hd:IsInt d) (hd0:0<d) (w:World) (he:Env w):Calls Tryz.prog 47 #[.int .i64 n,.int .i64 m,.int .i64 d] w (fun e w'=>e = .returned (I ⟨Rat.divInt n d,Rat.divInt m d⟩)∧Below w.heap.size w w'):=by
 have hB:Below w.heap.size w w:=Below.refl _ _
 have M1:=fun W (H:Env W)=>lof hn hd hd0 W H
 have M2:=fun W (H:Env W)=>lof hm hd hd0 W H
 unfold Q at *
 unfold I
 simp only
 generalize Rat.divInt n d=a at *
 generalize Rat.divInt m d=b at *
 go_enter Tryz.func47, Tryz.ntmps47
 go_wp2_with fail
 have d0_o:w.heap.size≤w.heap.size:=by have:=hB.size;omega
 have sB:=hB.size
 refine world_cut (fun X=>Below w.heap.size w X∧Row X w.heap.size (.cells #[.string ⟨#[]⟩,.string ⟨#[]⟩,.string ⟨#[]⟩,.string ⟨#[]⟩] 30)) ⟨BW,RWk⟩ ?_
 clear hB sB
 rintro V1 ⟨hB,ro⟩
 have so:=RFz4 ro
 refine (M1 _ (he.below hB)).mono ?_
 rintro e W2 ⟨rfl,h1⟩
 have stp:=St1 hB h1 ro;clear hB h1 ro so
 obtain ⟨hB,ro⟩:=stp
 have so:=RFz4 ro
 go_wp2_with fail
 refine (M2 _ (he.below hB)).mono ?_
 rintro e W3 ⟨rfl,h1⟩
 have stp:=St1 hB h1 ro;clear hB h1 ro so
 obtain ⟨hB,ro⟩:=stp
 have so:=RFz4 ro
 go_wp2_with fail
 have sB:=hB.size
 refine post_cut (fun X=>Below w.heap.size w X∧Row X w.heap.size (.cells #[.string (S a.num),.string (S (a.den:Int)),.string (S b.num),.string (S (b.den:Int))] 30)) ⟨BW,RWk⟩ ?_
 clear ro
 clear so
 clear hB sB
 rintro V4 ⟨hB,ro⟩
 have so:=RFz4 ro
 refine bodyPost_ret (v := .agg #[.string (S a.num),.string (S (a.den:Int)),.string (S b.num),.string (S (b.den:Int))]) ?res rfl ⟨rfl,hB⟩
 case res=>simp [results,Tryz.results47, go_sem,so]
theorem pat_set {W:World} {p:Option Addr} {l:List Pt} {b:Nat} {vs:Array Value} {T:TypeId} (h:PAt W p l) (r:Row W b (.cells vs T)) (hne:T ≠ 32) (i:Nat) (u:Value):PAt (W.setCell ⟨b,i,none⟩ u) p l :=
 h.elim .inl fun ⟨g,cur,e,hr,hx⟩ => .inr ⟨g,cur,e,Row.set_other hr u (fun e=>by subst e;have:=hr.2.symm.trans r.2;simp at this;exact hne this.2.symm),hx⟩
theorem pat_set3 {W:World} {p:Option Addr} {l:List Pt} {b:Nat} {vs:Array Value} {T:TypeId} {u0 u1 u2:Value} (h:PAt W p l) (r:Row W b (.cells vs T)) (hne:T ≠ 32):PAt (((W.setCell ⟨b,0,none⟩ u0).setCell ⟨b,1,none⟩ u1).setCell ⟨b,2,none⟩ u2) p l :=
 pat_set (pat_set (pat_set h r hne _ _) (r.set_same rfl) hne _ _) ((r.set_same rfl).set_same rfl) hne _ _
theorem below_keep {a w w':World} (h:Below a.heap.size a w) (hB:Below w.heap.size w w'):Below a.heap.size a w':=h.trans (hB.mono h.size)
/-- Integers four by four, in memory. -/
def X4 (W:World) (p:Option Addr) (n:Nat) (f:Nat→Nat→Int):Prop:=n=0∨∃ g o,p=some ⟨g,o,none⟩∧g<W.heap.size∧∀ i j,i<n→j<4→W.cell? ⟨g,o+i * 4+j,none⟩=some (.int .i64 (f i j))
theorem X4.below {W W':World} {p:Option Addr} {n:Nat} {f:Nat→Nat→Int} (h:X4 W p n f) (hB:Below W.heap.size W W'):X4 W' p n f :=
 h.elim .inl fun ⟨g,o,e,hg,hc⟩ => .inr ⟨g,o,e,Nat.lt_of_lt_of_le hg hB.size,fun i j hi hj=>(hB.cell (p:=⟨g,_,none⟩) hg).trans (hc i j hi hj)⟩
def madeRate (a b:Int):Rat:=Rat.divInt (pk a 9) (1+pk b 9)
def madePt (f:Nat→Nat→Int) (i:Nat):Pt:=⟨(pk (f i 0) 101).toNat,⟨Rat.divInt (pk (f i 1) 21) (1+pk (f i 2) 4),Rat.divInt (pk (f i 1) 21+pk (f i 3) 30) (1+pk (f i 2) 4)⟩⟩
def madeL (f:Nat→Nat→Int):Nat→List Pt
 | 0=>[]
 | k+1=>ins (madeL f k) (madePt f k)
theorem divInt_mn {n m d:Int} (hd:0<d) (h:n≤m):Rat.divInt n d≤Rat.divInt m d:=by
 rw [Rat.divInt_eq_div,Rat.divInt_eq_div]
 have h1:(0:Rat)<(d:Rat):=by exact_mod_cast hd
 have h2:(n:Rat)≤(m:Rat):=by exact_mod_cast h
 have h3:=Rat.inv_pos.2 h1
 rw [Rat.div_def,Rat.div_def]
 exact Rat.mul_le_mul_of_nonneg_right h2 (Rat.le_of_lt h3)
theorem divInt_nn {n d:Int} (hd:0<d) (h:0≤n):0≤Rat.divInt n d:=by
 have:=divInt_mn hd h
 simpa using this
/-- What is known of a history that integers determine. -/
structure HMade (h:Hist):Prop where
 ok:h.Ok
 rdig:QDig 2 h.rate
 ivs:∀ p,p ∈ h.pts→IDig 2 p.iv
 times:∀ p,p ∈ h.pts→p.t≤100
 few:h.pts.length≤8
theorem madeRate_ok (a b:Int):0≤madeRate a b∧QDig 2 (madeRate a b):=by
 have h1:=pk_nonneg a (n:=9) (by decide);have h2:=pk_lt a (n:=9) (by decide);have h3:=pk_nonneg b (n:=9) (by decide);have h4:=pk_lt b (n:=9) (by decide)
 exact ⟨divInt_nn (by omega) h1,QDig.ofInt (by omega) (by unfold Dig;omega) (by unfold Dig;omega)⟩
theorem madePt_ok (f:Nat→Nat→Int) (i:Nat):(madePt f i).t≤100∧(madePt f i).iv.Ok∧IDig 2 (madePt f i).iv:=by
 have a1:=pk_nonneg (f i 0) (n:=101) (by decide);have a2:=pk_lt (f i 0) (n:=101) (by decide);have b1:=pk_nonneg (f i 1) (n:=21) (by decide);have b2:=pk_lt (f i 1) (n:=21) (by decide)
 have c1:=pk_nonneg (f i 2) (n:=4) (by decide);have c2:=pk_lt (f i 2) (n:=4) (by decide);have d1:=pk_nonneg (f i 3) (n:=30) (by decide);have d2:=pk_lt (f i 3) (n:=30) (by decide)
 refine ⟨?_,?_,?_,?_⟩
 ·show (pk (f i 0) 101).toNat≤100;omega
 ·exact divInt_mn (by omega) (by omega)
 ·exact QDig.ofInt (by omega) (by unfold Dig;omega) (by unfold Dig;omega)
 ·exact QDig.ofInt (by omega) (by unfold Dig;omega) (by unfold Dig;omega)
theorem made_ok (a b:Int) (f:Nat→Nat→Int):∀ k,k≤8→HMade ⟨madeRate a b,madeL f k⟩∧(madeL f k).length=k
 | 0,_=>by
  have h:=madeRate_ok a b
  refine ⟨⟨⟨h.1,h.2.mono (by omega),by simp [madeL],by simp [madeL],by simp [madeL],by simp [madeL]⟩,h.2,by simp [madeL],by simp [madeL],by simp [madeL]⟩,rfl⟩
 | k+1,hk=>by
  obtain ⟨h,hl⟩:=made_ok a b f k (by omega)
  obtain ⟨p1,p2,p3⟩:=madePt_ok f k
  refine ⟨⟨ins_ok h.ok (by rw [show (Hist.mk (madeRate a b) (madeL f k)).pts=madeL f k from rfl,hl];omega) (by omega) ⟨p2,p3.mono (by omega)⟩,h.rdig,fun q hq => ?_,fun q hq => ?_,?_⟩,?_⟩
  ·rcases mem_ins.1 hq with rfl | hq
   ·exact p3
   ·exact h.ivs q hq
  ·rcases mem_ins.1 hq with rfl | hq
   ·exact p1
   ·exact h.times q hq
  ·show (ins (madeL f k) (madePt f k)).length≤8
   rw [ins_length,hl];omega
  ·show (ins (madeL f k) (madePt f k)).length=k+1
   rw [ins_length,hl]
def MadeRes (a b:Int) (l:List Pt) (w:World) (e:Ending) (w':World):Prop:=∃ p c,PAt w' p l∧l.length≤c∧((l=[]→p=none)∧∀ g,p=some ⟨g,0,none⟩→w.heap.size≤g)∧e = .returned (.agg #[.string (S (madeRate a b).num),.string (S ((madeRate a b).den:Int)),.slice p l.length c])∧Below w.heap.size w w'
theorem r12made {a b:Int} (ha:IsInt a) (hb:IsInt b) (f:Nat→Nat→Int) (px:Option Addr) (n cx:Nat) (hf:∀ i j,i<n→j<4→IsInt (f i j)) (hn:n≤9223372036854775807) (w:World) (hx:X4 w px n f) :
  Calls Tryz.prog 7 #[.agg #[.int .i64 a,.int .i64 b],.slice px n cx] w (MadeRes a b (madeL f (min n 8)) w):=by
 have hB:Below w.heap.size w w:=Below.refl _ _
 have HX:=Lib.hid hx
 have P1:=fun W=>pick12 a 9 ha (by decide) W
 have P2:=fun W=>pick12 b 9 hb (by decide) W
 have q1:=pk_nonneg b (n:=9) (by decide)
 have q2:=pk_lt b (n:=9) (by decide)
 have q3:=pk_nonneg a (n:=9) (by decide)
 have q4:=pk_lt a (n:=9) (by decide)
 have MO:=fun W=>rqof (n:=pk a 9) (d:=1+pk b 9) ⟨by omega,by omega⟩ ⟨by omega,by omega⟩ (by omega) W
 have MOK:=fun k (h:k≤8)=>made_ok a b f k h
 have HOK:=Lib.hid MOK
 have hadd:IntKind.i64.wrap (1+pk b 9)=1+pk b 9:=by rw [IntKind.wrap_i64];omega
 rw [show Rat.divInt (pk a 9) (1+pk b 9)=madeRate a b from rfl] at MO
 unfold MadeRes
 unfold QOk Q at MO
 generalize madeRate a b=rt at *
 generalize pk a 9=ka at *
 generalize pk b 9=kb at *
 clear hx ha hb MOK q1 q2 q3 q4
 go_enter Tryz.func7, Tryz.ntmps7
 go_wp2_with fail
 have d0_res:w.heap.size≤w.heap.size+1:=by have:=hB.size;omega
 have d0_h:w.heap.size≤w.heap.size+1+1:=by have:=hB.size;omega
 have sB:=hB.size
 refine wp_cut (fun X=>Below w.heap.size w X∧Row X w.heap.size (.cells #[.int .i64 a,.int .i64 b] 27)∧Row X (w.heap.size+1) (.cells #[.string ⟨#[]⟩,.string ⟨#[]⟩,.slice none 0 0] 26)∧Row X (w.heap.size+1+1) (.cells #[.string ⟨#[]⟩,.string ⟨#[]⟩,.slice none 0 0] 26)) ⟨BW,RWk,RWk,RWk⟩ ?_
 clear hB sB
 rintro V1 ⟨hB,rr2,rres,rh⟩
 have sr2:=RF2 rr2
 have sres:=RFz3 rres
 have sh:=RFz3 rh
 refine wp_region_late 12 [10] [.val (.pointer (some ⟨w.heap.size,0,none⟩)),.val (.int .i64 a),.val (.int .i64 ka),.val (.pointer (some ⟨w.heap.size,1,none⟩)),.val (.int .i64 b),.val (.int .i64 kb),.val (.int .i64 (1+kb)),.val (.tuple #[.agg #[.string (S rt.num),.string (S (rt.den:Int))],.int .i64 0]),.val (.tuple #[.agg #[.string (S rt.num),.string (S (rt.den:Int))],.int .i64 0]),.val (.agg #[.string (S rt.num),.string (S (rt.den:Int))]),.val (.int .i64 0),.val (.pointer (some ⟨w.heap.size+1+1,0,none⟩))] [] (by kernel_rfl) (by kernel_rfl) (by kernel_rfl) rfl trivial (allItems.cons (qif hadd) (allItems.cons (qi1 fun X h=>RF2 (Row.below rr2 h)) (allItems.cons (qi2 fun X h=>P1 X) (allItems.cons (qif hadd) (allItems.cons (qi1 fun X h=>RF2 (Row.below rr2 h)) (allItems.cons (qi2 fun X h=>P2 X) (allItems.cons (qif hadd) (allItems.cons (qi2 fun X h=>MO X) (allItems.cons qi0 (allItems.cons qi0 (allItems.cons qi0 (allItems.cons qi0 trivial)))))))))))) ?_
 rintro W h1
 have stp:=St3 hB h1 rr2 rres rh;clear hB h1 rr2 sr2 rres sres rh sh
 obtain ⟨hB,rr2,rres,rh⟩:=stp
 have sr2:=RF2 rr2
 have sres:=RFz3 rres
 have sh:=RFz3 rh
 simp only [setItems,List.setIfInBounds_toArray,List.set_cons_succ,List.set_cons_zero,List.take_succ_cons,List.take_zero,List.drop_succ_cons,List.drop_zero]
 intro _
 go_wp2_with fail
 unfold normalQ
 go_wp2_with fail
 have sB:=hB.size
 refine wp_cut (fun X=>Below w.heap.size w X∧Row X (w.heap.size+1) (.cells #[.string ⟨#[]⟩,.string ⟨#[]⟩,.slice none 0 0] 26)∧Row X (w.heap.size+1+1) (.cells #[.string (S rt.num),.string (S (rt.den:Int)),.slice none 0 0] 26)) ⟨BW,RWk,RWk⟩ ?_
 clear rr2
 clear sr2
 clear rres
 clear sres
 clear rh
 clear sh
 clear hB sB
 rintro V2 ⟨hB,rres,rh⟩
 have sres:=RFz3 rres
 have sh:=RFz3 rh
 clear sres
 clear sh
 go_loopw [6] (fun v6 wr=>∃ (i c:Nat) (p:Option Addr),v6 = .int .i64 (i:Int)∧i≤n∧i≤8∧PAt wr p (madeL f i)∧(madeL f i).length≤c∧((madeL f i=[]→p=none)∧∀ g,p=some ⟨g,0,none⟩→w.heap.size≤g)∧Below w.heap.size w wr∧Row wr (w.heap.size+1+1) (.cells #[.string (S rt.num),.string (S (rt.den:Int)),.slice p (madeL f i).length c] 26)∧Row wr (w.heap.size+1) (.cells #[.string ⟨#[]⟩,.string ⟨#[]⟩,.slice none 0 0] 26)) (fun v6 _=>(9 - RowKit.intOf v6).toNat)
 case atStart=>exact ⟨0,0,none,rfl,Nat.zero_le _,Nat.zero_le _,.inl ⟨rfl,.inl rfl⟩,Nat.le_refl _,⟨fun _=>rfl,fun g h=>by cases h⟩,hB,rh,rres⟩
 case round =>
  clear hB rh rres
  obtain ⟨i,c,p,rfl,hin,hi8,hpa,hlc,hpn,hB,rh,rres⟩:=hrel
  rcases Nat.lt_or_ge i (min n 8) with hlt | hge
  ·have h1:i<n:=by omega
   have h2:i<8:=by omega
   have hiI:(i:Int)<(n:Int):=by omega
   have hi8I:(i:Int)<8:=by omega
   have HPA:=Lib.hid hpa
   have HPN:=Lib.hid hpn
   clear hpa hpn
   obtain ⟨g,o,rfl,hg,hc⟩:∃ g o,px=some ⟨g,o,none⟩∧g<w.heap.size∧∀ i j,i<n→j<4→w.cell? ⟨g,o+i * 4+j,none⟩=some (.int .i64 (f i j)):=HX.out.resolve_left (by omega)
   obtain ⟨y0,e0⟩:∃ y,y=f i 0:=⟨_,rfl⟩
   obtain ⟨y1,e1⟩:∃ y,y=f i 1:=⟨_,rfl⟩
   obtain ⟨y2,e2⟩:∃ y,y=f i 2:=⟨_,rfl⟩
   obtain ⟨y3,e3⟩:∃ y,y=f i 3:=⟨_,rfl⟩
   have cx0:wr.cell? ⟨g,o+i * 4,none⟩=some (.int .i64 y0):=by rw [e0];exact (hB.cell (p:=⟨g,_,none⟩) hg).trans (hc i 0 h1 (by omega))
   have cx1:wr.cell? ⟨g,o+i * 4+1,none⟩=some (.int .i64 y1):=by rw [e1];exact (hB.cell (p:=⟨g,_,none⟩) hg).trans (hc i 1 h1 (by omega))
   have cx2:wr.cell? ⟨g,o+i * 4+2,none⟩=some (.int .i64 y2):=by rw [e2];exact (hB.cell (p:=⟨g,_,none⟩) hg).trans (hc i 2 h1 (by omega))
   have cx3:wr.cell? ⟨g,o+i * 4+3,none⟩=some (.int .i64 y3):=by rw [e3];exact (hB.cell (p:=⟨g,_,none⟩) hg).trans (hc i 3 h1 (by omega))
   have I0:IsInt y0:=e0 ▸ hf i 0 h1 (by omega)
   have I1:IsInt y1:=e1 ▸ hf i 1 h1 (by omega)
   have I2:IsInt y2:=e2 ▸ hf i 2 h1 (by omega)
   have I3:IsInt y3:=e3 ▸ hf i 3 h1 (by omega)
   have M0:=fun W=>pick12 y0 101 I0 (by decide) W
   have M1:=fun W=>pick12 y1 21 I1 (by decide) W
   have M2:=fun W=>pick12 y2 4 I2 (by decide) W
   have M3:=fun W=>pick12 y3 30 I3 (by decide) W
   have a1:=pk_nonneg y0 (n:=101) (by decide)
   have a2:=pk_lt y0 (n:=101) (by decide)
   have b1:=pk_nonneg y1 (n:=21) (by decide)
   have b2:=pk_lt y1 (n:=21) (by decide)
   have c1:=pk_nonneg y2 (n:=4) (by decide)
   have c2:=pk_lt y2 (n:=4) (by decide)
   have d1:=pk_nonneg y3 (n:=30) (by decide)
   have d2:=pk_lt y3 (n:=30) (by decide)
   have O1:=fun W=>rqof (n:=pk y1 21) (d:=1+pk y2 4) ⟨by omega,by omega⟩ ⟨by omega,by omega⟩ (by omega) W
   have O2:=fun W=>rqof (n:=pk y1 21+pk y3 30) (d:=1+pk y2 4) ⟨by omega,by omega⟩ ⟨by omega,by omega⟩ (by omega) W
   obtain ⟨q,hq⟩:∃ q,q=madePt f i:=⟨_,rfl⟩
   have e5:Rat.divInt (pk y1 21) (1+pk y2 4)=q.iv.lo:=by rw [hq,e1,e2];rfl
   have e6:Rat.divInt (pk y1 21+pk y3 30) (1+pk y2 4)=q.iv.hi:=by rw [hq,e1,e2,e3];rfl
   have e7:pk y0 101=(q.t:Int):=by rw [hq,e0];rw [e0] at a1;show pk (f i 0) 101=(((pk (f i 0) 101).toNat:Nat):Int);omega
   rw [e5] at O1
   rw [e6] at O2
   rw [e7] at M0
   have hw1:IntKind.i64.wrap (1+pk y2 4)=1+pk y2 4:=by rw [IntKind.wrap_i64];omega
   have hw2:IntKind.i64.wrap (pk y1 21+pk y3 30)=pk y1 21+pk y3 30:=by rw [IntKind.wrap_i64];omega
   have MA:=fun W (hp:PAt W p (madeL f i))=>r12add (a:=q) (HOK.out i (by omega)).1.ok (by have:=(HOK.out (i+1) (by omega)).1.ok;rw [hq];exact this) p (madeL f i).length c rfl hlc W hp HPN.out.1
   rw [show ins (madeL f i) q=madeL f (i+1) by rw [hq];rfl] at MA
   unfold AddOk at MA
   unfold QOk Q at O1 O2
   generalize pk y1 21=k1 at *
   generalize pk y2 4=k2 at *
   generalize pk y3 30=k3 at *
   clear a1 a2 b1 b2 c1 c2 d1 d2 e0 e1 e2 e3 e5 e6 e7 I0 I1 I2 I3 hq hc
   have sh:=RFz3 rh
   have sres:=RFz3 rres
   have hBr0:Below wr.heap.size wr wr:=Below.refl _ _
   have hBr:=hBr0
   clear hBr0
   go_wp2_with fail
   have dres_y:w.heap.size+1<wr.heap.size:=by omega
   have dh_y:w.heap.size+1+1<wr.heap.size:=by omega
   have sB:=hB.size
   refine world_cut (fun X=>Below w.heap.size w X∧Row X (w.heap.size+1) (.cells #[.string ⟨#[]⟩,.string ⟨#[]⟩,.slice none 0 0] 26)∧Row X (w.heap.size+1+1) (.cells #[.string (S rt.num),.string (S (rt.den:Int)),.slice p (madeL f i).length c] 26)∧Row X wr.heap.size (.cells #[.int .i64 y0,.int .i64 y1,.int .i64 y2,.int .i64 y3] 85)∧Below wr.heap.size wr X) ⟨BW,RWk,RWk,RWk,BW⟩ ?_
   clear rres
   clear sres
   clear rh
   clear sh
   clear hB sB hBr
   rintro V3 ⟨hB,rres,rh,ry,hBr⟩
   have sres:=RFz3 rres
   have sh:=RFz3 rh
   have sy:=RF4 ry
   refine (M1 _).mono ?_
   rintro e W4 ⟨rfl,h1⟩
   replace hBr:=below_keep hBr h1
   have stp:=St3 hB h1 rres rh ry;clear hB h1 rres sres rh sh ry sy
   obtain ⟨hB,rres,rh,ry⟩:=stp
   have sres:=RFz3 rres
   have sh:=RFz3 rh
   have sy:=RF4 ry
   go_wp2_with fail
   refine (M2 _).mono ?_
   rintro e W5 ⟨rfl,h1⟩
   replace hBr:=below_keep hBr h1
   have stp:=St3 hB h1 rres rh ry;clear hB h1 rres sres rh sh ry sy
   obtain ⟨hB,rres,rh,ry⟩:=stp
   have sres:=RFz3 rres
   have sh:=RFz3 rh
   have sy:=RF4 ry
   go_wp2_with fail
   refine (M0 _).mono ?_
   rintro e W6 ⟨rfl,h1⟩
   replace hBr:=below_keep hBr h1
   have stp:=St3 hB h1 rres rh ry;clear hB h1 rres sres rh sh ry sy
   obtain ⟨hB,rres,rh,ry⟩:=stp
   have sres:=RFz3 rres
   have sh:=RFz3 rh
   have sy:=RF4 ry
   go_wp2_with fail
   have dres_p:w.heap.size+1<W6.heap.size:=by omega
   have dh_p:w.heap.size+1+1<W6.heap.size:=by omega
   have dy_p:wr.heap.size<W6.heap.size:=by omega
   have d0_p:w.heap.size≤W6.heap.size:=by have:=hB.size;omega
   have sB:=hB.size
   refine world_cut (fun X=>Below w.heap.size w X∧Row X (w.heap.size+1) (.cells #[.string ⟨#[]⟩,.string ⟨#[]⟩,.slice none 0 0] 26)∧Row X (w.heap.size+1+1) (.cells #[.string (S rt.num),.string (S (rt.den:Int)),.slice p (madeL f i).length c] 26)∧Row X wr.heap.size (.cells #[.int .i64 y0,.int .i64 y1,.int .i64 y2,.int .i64 y3] 85)∧Row X W6.heap.size (.cells #[.int .i64 (q.t:Int),.string ⟨#[]⟩,.string ⟨#[]⟩,.string ⟨#[]⟩,.string ⟨#[]⟩] 32)∧Below wr.heap.size wr X) ⟨BW,RWk,RWk,RWk,RWk,BW⟩ ?_
   clear rres
   clear sres
   clear rh
   clear sh
   clear ry
   clear sy
   clear hB sB hBr
   rintro V7 ⟨hB,rres,rh,ry,rp,hBr⟩
   have sres:=RFz3 rres
   have sh:=RFz3 rh
   have sy:=RF4 ry
   have sp:=RFz5 rp
   refine (O1 _).mono ?_
   rintro e W8 ⟨rfl,h1⟩
   replace hBr:=below_keep hBr h1
   have stp:=St4 hB h1 rres rh ry rp;clear hB h1 rres sres rh sh ry sy rp sp
   obtain ⟨hB,rres,rh,ry,rp⟩:=stp
   have sres:=RFz3 rres
   have sh:=RFz3 rh
   have sy:=RF4 ry
   have sp:=RFz5 rp
   go_wp2_with fail
   have sB:=hB.size
   refine world_cut (fun X=>Below w.heap.size w X∧Row X (w.heap.size+1) (.cells #[.string ⟨#[]⟩,.string ⟨#[]⟩,.slice none 0 0] 26)∧Row X (w.heap.size+1+1) (.cells #[.string (S rt.num),.string (S (rt.den:Int)),.slice p (madeL f i).length c] 26)∧Row X wr.heap.size (.cells #[.int .i64 y0,.int .i64 y1,.int .i64 y2,.int .i64 y3] 85)∧Row X W6.heap.size (.cells #[.int .i64 (q.t:Int),.string (S q.iv.lo.num),.string (S (q.iv.lo.den:Int)),.string ⟨#[]⟩,.string ⟨#[]⟩] 32)∧Below wr.heap.size wr X) ⟨BW,RWk,RWk,RWk,RWk,BW⟩ ?_
   clear rres
   clear sres
   clear rh
   clear sh
   clear ry
   clear sy
   clear rp
   clear sp
   clear hB sB hBr
   rintro V9 ⟨hB,rres,rh,ry,rp,hBr⟩
   have sres:=RFz3 rres
   have sh:=RFz3 rh
   have sy:=RF4 ry
   have sp:=RFz5 rp
   refine (M3 _).mono ?_
   rintro e W10 ⟨rfl,h1⟩
   replace hBr:=below_keep hBr h1
   have stp:=St4 hB h1 rres rh ry rp;clear hB h1 rres sres rh sh ry sy rp sp
   obtain ⟨hB,rres,rh,ry,rp⟩:=stp
   have sres:=RFz3 rres
   have sh:=RFz3 rh
   have sy:=RF4 ry
   have sp:=RFz5 rp
   go_wp2_with fail
   refine (O2 _).mono ?_
   rintro e W11 ⟨rfl,h1⟩
   replace hBr:=below_keep hBr h1
   have stp:=St4 hB h1 rres rh ry rp;clear hB h1 rres sres rh sh ry sy rp sp
   obtain ⟨hB,rres,rh,ry,rp⟩:=stp
   have sres:=RFz3 rres
   have sh:=RFz3 rh
   have sy:=RF4 ry
   have sp:=RFz5 rp
   go_wp2_with fail
   have sB:=hB.size
   refine world_cut (fun X=>Below w.heap.size w X∧Row X (w.heap.size+1) (.cells #[.string ⟨#[]⟩,.string ⟨#[]⟩,.slice none 0 0] 26)∧Row X (w.heap.size+1+1) (.cells #[.string (S rt.num),.string (S (rt.den:Int)),.slice p (madeL f i).length c] 26)∧Row X wr.heap.size (.cells #[.int .i64 y0,.int .i64 y1,.int .i64 y2,.int .i64 y3] 85)∧Row X W6.heap.size (.cells #[.int .i64 (q.t:Int),.string (S q.iv.lo.num),.string (S (q.iv.lo.den:Int)),.string (S q.iv.hi.num),.string (S (q.iv.hi.den:Int))] 32)∧Below wr.heap.size wr X) ⟨BW,RWk,RWk,RWk,RWk,BW⟩ ?_
   clear rres
   clear sres
   clear rh
   clear sh
   clear ry
   clear sy
   clear rp
   clear sp
   clear hB sB hBr
   rintro V12 ⟨hB,rres,rh,ry,rp,hBr⟩
   have sres:=RFz3 rres
   have sh:=RFz3 rh
   have sy:=RF4 ry
   have sp:=RFz5 rp
   have hV0:=hB.size
   refine (MA _ (PAt.below HPA.out hBr)).mono ?_
   rintro e W13 ⟨p',c',hown,rfl,h1⟩
   replace hBr:=below_keep hBr h1
   have stp:=St4 hB h1 rres rh ry rp;clear hB h1 rres sres rh sh ry sy rp sp
   obtain ⟨hB,rres,rh,ry,rp⟩:=stp
   have sres:=RFz3 rres
   have sh:=RFz3 rh
   have sy:=RF4 ry
   have sp:=RFz5 rp
   go_wp2
   go_roundw
   case rel=>exact ⟨i+1,c',p',by go_num,by omega,by omega,own_patR (own_set3 hown rh (by decide)) rfl,own_le hown,⟨fun h9=>(by have h8:=(HOK.out (i+1) (by omega)).2;rw [h9] at h8;cases h8),fun g2 h9=>by have:=(World.ownsRow.lt hown g2 (by rw [h9];rfl)).1;omega⟩,BW,RWk,RWk⟩
   case measure=>simp [RowKit.intOf];try omega
  ·have hge2:min n 8=i:=by omega
   have HGE:=Lib.hid hge2
   clear hge2
   have HPA:=Lib.hid hpa
   have HPN:=Lib.hid hpn
   clear hpa hpn
   have sh:=RFz3 rh
   have sres:=RFz3 rres
   rcases Nat.lt_or_ge i n with hin2 | hin2
   ·have hi1:(i:Int)<(n:Int):=by omega
    have hi2:¬ ((i:Int)<8):=by omega
    have hBr:Below wr.heap.size wr wr:=Below.refl _ _
    go_wp2_with fail
    have sB:=hB.size
    refine post_cut (fun X=>Below w.heap.size w X∧Row X (w.heap.size+1) (.cells #[.string (S rt.num),.string (S (rt.den:Int)),.slice p (madeL f i).length c] 26)∧PAt X p (madeL f i)) ⟨BW,RWk,pat_set3 HPA.out rres (by decide)⟩ ?_
    clear hB rres
    rintro X ⟨hB,ro,hpa⟩
    have e0:=Row.cell_at ro 0 rfl
    have e1:=Row.cell_at ro 1 rfl
    have e2:=Row.cell_at ro 2 rfl
    refine bodyPost_ret (v := .agg #[.string (S rt.num),.string (S (rt.den:Int)),.slice p (madeL f i).length c]) ?res rfl (by rw [HGE.out];exact ⟨p,hpa,c,hlc,HPN.out,rfl,hB⟩)
    case res=>simp [results,Tryz.results7, go_sem,e0,e1,e2]
   ·have hi1:¬ ((i:Int)<(n:Int)):=by omega
    have hBr:Below wr.heap.size wr wr:=Below.refl _ _
    go_wp2_with fail
    have sB:=hB.size
    refine post_cut (fun X=>Below w.heap.size w X∧Row X (w.heap.size+1) (.cells #[.string (S rt.num),.string (S (rt.den:Int)),.slice p (madeL f i).length c] 26)∧PAt X p (madeL f i)) ⟨BW,RWk,pat_set3 HPA.out rres (by decide)⟩ ?_
    clear hB rres
    rintro X ⟨hB,ro,hpa⟩
    have e0:=Row.cell_at ro 0 rfl
    have e1:=Row.cell_at ro 1 rfl
    have e2:=Row.cell_at ro 2 rfl
    refine bodyPost_ret (v := .agg #[.string (S rt.num),.string (S (rt.den:Int)),.slice p (madeL f i).length c]) ?res rfl (by rw [HGE.out];exact ⟨p,hpa,c,hlc,HPN.out,rfl,hB⟩)
    case res=>simp [results,Tryz.results7, go_sem,e0,e1,e2]
end Go.Proofs.YtnokpldomlmamaaGreatDoor
