/-
 The iterator over the pairs of points that contradict each other.
-/
import Derived.LoopIn
import Derived.LoopNIn
import Derived.OwnWalkIn
import Derived.RangeFuncBound
import Derived.RangeFuncCalls
import Derived.RangeFuncLeaves
import Derived.RangeFuncNested
import Derived.Shelf.Abstract
import Derived.Shelf.RegionOpen
import Derived.TacticsInMore
import Derived.WalkKit
import Derived.Test.YtnokpldomlmamaaGreatDoorOTail2
import Derived.Test.YtnokpldomlmamaaGreatDoorOTail3
set_option linter.unusedSimpArgs false
set_option linter.unusedVariables false
set_option maxRecDepth 100000
set_option maxHeartbeats 16000000
namespace Go.Proofs.YtnokpldomlmamaaGreatDoor
open Go Go.RowKit Go.Lib Go.Shelf
attribute [local go_sem] Oper.semAt_some normalQ
theorem grown_below {W W':World} (h:Below W.heap.size W W'):W.grownBy W' none:=⟨h.os,h.tape,h.output,h.size,fun k hk _=>h.block k hk⟩
theorem abides_below {β:Type} {B:Nat} {J:β→World→Prop} (h:AbidesFrom B J) {s:β} {W W':World} (hs:J s W) (hB:Below W.heap.size W W'):J s W':=h s W W' none hs (grown_below hB) (fun r e=>by cases e)
/-- What a round keeps: what lies below n₀, and whatever holds histories or points. -/
structure KpP (n₀:Nat) (A B:World):Prop where
 below:Below n₀ A B
 kept:∀ (k:Nat) (vs:Array Value) (t:TypeId),A.heap[k]? = some (Obj.cells vs t)→t = 26 ∨ t = 32 → B.heap[k]? = A.heap[k]?
theorem KpP.refl (n₀:Nat) (A:World):KpP n₀ A A:=⟨Below.refl _ _,fun _ _ _ _ _=>rfl⟩
theorem KpP.trans {n₀:Nat} {A B C:World} (h:KpP n₀ A B) (k:KpP n₀ B C):KpP n₀ A C :=
 ⟨h.below.trans k.below,fun i vs t hi ht=>(k.kept i vs t ((h.kept i vs t hi ht).trans hi) ht).trans (h.kept i vs t hi ht)⟩
theorem KpP.row {n₀:Nat} {A B:World} (h:KpP n₀ A B) {b:Nat} {vs:Array Value} {t:TypeId} (r:Row A b (.cells vs t)) (ht:t = 26 ∨ t = 32 := by simp):Row B b (.cells vs t) :=
 ⟨Nat.lt_of_lt_of_le r.1 h.below.size,(h.kept b vs t r.2 ht).trans r.2⟩
theorem KpP.pat {n₀:Nat} {A B:World} (h:KpP n₀ A B) {p:Option Addr} {l:List Pt} (r:PAt A p l):PAt B p l :=
 r.elim .inl fun ⟨g,cur,e,hr,hx⟩ => .inr ⟨g,cur,e,h.row hr,hx⟩
theorem KpP.of_below {n₀:Nat} {A B:World} (h:Below A.heap.size A B) (hn:n₀≤A.heap.size):KpP n₀ A B :=
 ⟨h.mono hn,fun k _ _ hk _=>h.block k (Array.getElem?_eq_some_iff.1 hk).1⟩
theorem KpP.set {n₀ b i:Nat} {A:World} {vs:Array Value} {t:TypeId} (r:Row A b (.cells vs t)) (h1:t ≠ 26) (h2:t ≠ 32) (hn:n₀≤b) (v:Value):KpP n₀ A (A.setCell ⟨b,i,none⟩ v) :=
 ⟨(Below.refl _ _).setCell hn v,fun k vs' t' hk ht=>by
  by_cases e:k=b
  ·subst e
   rw [r.2] at hk
   cases hk
   rcases ht with ht | ht
   ·exact absurd ht h1
   ·exact absurd ht h2
  ·exact Below.heap_setCell _ _ _ _ e⟩
theorem KpP.grown {n₀ b:Nat} {A B:World} {vs:Array Value} {t:TypeId} (hg:A.grownBy B (some b)) (r:Row A b (.cells vs t)) (h1:t ≠ 26) (h2:t ≠ 32) (hn:n₀≤b) (hs:n₀≤A.heap.size):KpP n₀ A B :=
 ⟨(Below.refl _ _).grown hg hs (fun k e=>by cases e;exact hn),fun k vs' t' hk ht=>hg.block k (Array.getElem?_eq_some_iff.1 hk).1 (fun e=>by
  cases e
  rw [r.2] at hk
  cases hk
  rcases ht with ht | ht
  ·exact absurd ht h1
  ·exact absurd ht h2)⟩
theorem KpP.book {n₀:Nat} {w:World} (hn:n₀≤w.heap.size) (W:World) (l:Nat) (o o':Obj) (hl:w.heap.size≤l) (h:W.heap[l]? = some o) (h1:o.isCells=false) (h2:o.isWalk=false):KpP n₀ W (W.putObj l o') :=
 ⟨belowK_b hn W l o o' hl h h1 h2,fun k vs t hk _=>World.putObj_heap_other (fun e=>by subst e;rw [h] at hk;cases hk;cases h1)⟩
theorem cAt_sorted {r:Rat} {l:List Pt} (hs:l.Pairwise fun a b=>a.t≤b.t) {i k:Nat} (hik:i<k) (hk:k<l.length) :
  cAt ⟨r,l⟩ i k=(decide (0<cmpQ ((ptD l k).iv.lo - (ptD l i).iv.hi) (far r ((ptD l k).t - (ptD l i).t))) || decide (0<cmpQ ((ptD l i).iv.lo - (ptD l k).iv.hi) (far r ((ptD l k).t - (ptD l i).t)))):=by
 have h:=sorted_mono hs (Nat.le_of_lt hik) hk
 unfold cAt contra
 rw [Bool.eq_iff_iff]
 simp only [decide_eq_true_eq,Bool.or_eq_true,cmpQ_gt,dist_comm _ (ptD l i).t,dist_le h]
theorem rowUp_len (c:Nat→Nat→Bool) (i k:Nat):(rowUp c i k).length≤k:=by
 unfold rowUp
 rw [List.length_map]
 exact Nat.le_trans (List.length_filter_le _ _) (by simp)
theorem conUp_len (c:Nat→Nat→Bool) (n:Nat):∀ i,(conUp c n i).length≤i * n
 | 0=>by simp [conUp]
 | i+1=>by
  rw [conUp_succ,List.length_append,Nat.succ_mul]
  exact Nat.add_le_add (conUp_len c n i) (rowUp_len c i n)
theorem pre_len (c:Nat→Nat→Bool) {n i k:Nat} (hn:n≤64) (hi:i<n) (hk:k<n):(conUp c n i ++ rowUp c i k).length<4096:=by
 have h1:=conUp_len c n i
 have h2:=rowUp_len c i k
 have h3:i * n≤i * 64:=Nat.mul_le_mul_left _ hn
 rw [List.length_append]
 omega
theorem cons_ne {r:Rat} {l:List Pt} {i k:Nat} (hik:i<k) (hk:k<l.length) (h:cAt ⟨r,l⟩ i k=true):cons ⟨r,l⟩≠[]:=fun e=>by
 have:=conUp_nil.1 e i k hik hk
 rw [h] at this
 cases this
def encP (x:Nat × Nat):Array Value:=#[.agg #[.int .i64 (x.1:Int),.int .i64 (x.2:Int)],.bool true]
theorem pairs1_in {r:Rat} {l:List Pt} (ho:Hist.Ok ⟨r,l⟩) (n:Nat) (hn:1≤n) (y bh:Nat) (p:Option Addr) (m c:Nat) (hm:l.length=m) (E w:World) (heE:Env E) (hE:Below E.heap.size E w) (J Jx:List (Nat × Nat)→World→Prop) (hJ:AbidesFrom w.heap.size J)
  (hY:∀ pre x W,J pre W→pre.length<4096→YieldAt Fence.wide (n - 1) Tryz.prog y (encP x) W fun e W'=>(e = .returned (.bool true)∧J (pre ++ [x]) W'∧KpP E.heap.size W W')∨(e = .returned (.bool false)∧Jx (pre ++ [x]) W'))
  (rh:Row w bh (.cells #[.string (S r.num),.string (S (r.den:Int)),.slice p m c] 26)) (hp:PAt w p l) (h0:J [] w) :
  Calls Tryz.prog 130 #[.func (.yield y) #[] #[],.pointer (some ⟨bh,0,none⟩)] w fun e W'=>(∃ v,e = .returned v)∧((∃ ys,ys=cons ⟨r,l⟩∧J ys W')∨(∃ pre,cons ⟨r,l⟩≠[]∧Jx pre W')):=by
 have hB:=hE
 have HJ:=hJ
 have HY:=Lib.hid hY
 have hfew:=ho.few
 have hs:=ho.sorted
 have HO:=Lib.hid ho
 simp only [hm] at hfew
 have HM:=Lib.hid hm
 have HP:=Lib.hid hp
 have J0:=Lib.hid h0
 have hbh:=rh.1
 clear ho hY hm hp h0 hJ
 have sh:=RF3 rh
 go_enter Tryz.func130, Tryz.ntmps130
 go_wp2_with fail
 go_loopw [14] (fun v14 wr=>∃ i:Nat,v14 = .int .i64 (i:Int)∧i≤m∧J (conUp (cAt ⟨r,l⟩) m i) wr∧Below E.heap.size E wr∧Row wr bh (.cells #[.string (S r.num),.string (S (r.den:Int)),.slice p m c] 26)∧PAt wr p l) (fun v14 _=>(m - RowKit.intOf v14).toNat)
 case atStart=>exact ⟨0,rfl,Nat.zero_le _,J0.out,hB,rh,HP.out⟩
 case round =>
  clear sh
  clear hB rh
  obtain ⟨i,rfl,him,hJi,hE,rh,HP⟩:=hrel
  obtain ⟨wo,howo⟩:∃ x:World,x=wr:=⟨_,rfl⟩
  subst howo
  have hB:Below wo.heap.size wo wo:=Below.refl _ _
  have he:=heE.below hE
  have HPo:=Lib.hid HP
  clear HP
  rcases Nat.lt_or_ge i m with hlt | hge
  ·have sh:=RF3 rh
   have hil:i<l.length:=by rw [HM.out];exact hlt
   obtain ⟨a,ha⟩:∃ a,a=ptD l i:=⟨_,rfl⟩
   have hma:a ∈ l:=ha ▸ ptD_mem hil
   have hiI:(i:Int)<(m:Int):=by omega
   obtain ⟨g,cur,rfl,rg,g0,g1,g2,g3,g4⟩:=PAt.at (PAt.below HPo.out hB) hil
   rw [← ha] at g0 g1 g2 g3 g4
   have HA:=Lib.hid ha
   clear ha
   have Fg:∀ X,Row X g (.cells cur 32)→(g<X.heap.size∧X.cell? ⟨g,i * 5,none⟩=some (.int .i64 (a.t:Int))∧X.cell? ⟨g,i * 5+1,none⟩=some (.string (S a.iv.lo.num))∧X.cell? ⟨g,i * 5+2,none⟩=some (.string (S (a.iv.lo.den:Int)))∧X.cell? ⟨g,i * 5+3,none⟩=some (.string (S a.iv.hi.num))∧X.cell? ⟨g,i * 5+4,none⟩=some (.string (S (a.iv.hi.den:Int)))):=fun X h=>⟨h.1,Row.cell_at h _ g0,Row.cell_at h _ g1,Row.cell_at h _ g2,Row.cell_at h _ g3,Row.cell_at h _ g4⟩
   have sg:=Fg _ rg
   have hadd:IntKind.i64.wrap ((i:Int)+1)=((i+1:Nat):Int):=by rw [IntKind.wrap_i64];omega
   go_wp2_with fail
   have sB:=hB.size
   refine wp_cut (fun X=>Below wo.heap.size wo X∧Row X bh (.cells #[.string (S r.num),.string (S (r.den:Int)),.slice (some ⟨g,0,none⟩) m c] 26)∧Row X g (.cells cur 32)∧Row X wo.heap.size (.cells #[.int .i64 (a.t:Int),.string (S a.iv.lo.num),.string (S (a.iv.lo.den:Int)),.string (S a.iv.hi.num),.string (S (a.iv.hi.den:Int))] 32)) ⟨BW,RWh,RWh,RWh⟩ ?_
   clear rh
   clear sh
   clear rg
   clear sg
   clear hB sB
   rintro V1 ⟨hB,rh,rg,ra⟩
   have sh:=RF3 rh
   have sg:=Fg _ rg
   have sa:=RF5 ra
   generalize hab:wo.heap.size=ab at ra
   clear hab
   clear sh
   clear sg
   clear sa
   go_loopw [5] (fun v5 wr=>∃ k:Nat,v5 = .int .i64 (k:Int)∧k≤m∧i<k∧J (conUp (cAt ⟨r,l⟩) m i ++ rowUp (cAt ⟨r,l⟩) i k) wr∧Below E.heap.size E wr∧Row wr bh (.cells #[.string (S r.num),.string (S (r.den:Int)),.slice (some ⟨g,0,none⟩) m c] 26)∧PAt wr (some ⟨g,0,none⟩) l∧Row wr ab (.cells #[.int .i64 (a.t:Int),.string (S a.iv.lo.num),.string (S (a.iv.lo.den:Int)),.string (S a.iv.hi.num),.string (S (a.iv.hi.den:Int))] 32)) (fun v5 _=>(m - RowKit.intOf v5).toNat)
   case atStart=>exact ⟨i+1,rfl,by omega,by omega,by rw [rowUp_start,List.append_nil];exact abides_below HJ hJi hB,hE.trans (hB.mono hE.size),rh,HPo.out.below hB,ra⟩
   case round =>
    clear hB hJi hE he HPo rh rg ra
    obtain ⟨k,rfl,hkm,hik,hJk,hE,rh,HP,ra⟩:=hrel
    obtain ⟨wi,howi⟩:∃ x:World,x=wr:=⟨_,rfl⟩
    subst howi
    have hB:Below wi.heap.size wi wi:=Below.refl _ _
    have he:=heE.below hE
    have HPo:=Lib.hid HP
    clear HP
    clear Fg
    rcases Nat.lt_or_ge k m with hlk | hgk
    ·have sh:=RF3 rh
     skip
     have sa:=RF5 ra
     have hkl:k<l.length:=by rw [HM.out];exact hlk
     obtain ⟨b,hb⟩:∃ b,b=ptD l k:=⟨_,rfl⟩
     have hmb:b ∈ l:=hb ▸ ptD_mem hkl
     have hkI:(k:Int)<(m:Int):=by omega
     have hc:=cAt_sorted (r:=r) hs hik hkl
     rw [← HA.out,← hb] at hc
     have hab2:a.t≤b.t:=by rw [HA.out,hb];exact sorted_mono hs (Nat.le_of_lt hik) hkl
     have hHc:=Lib.hid hc
     clear hc
     have MG:=fun W (H:Env W)=>dgap HO.out.rdig (HO.out.ivs a hma).2 (HO.out.ivs b hmb).2 hab2 (HO.out.times b hmb) W H
     have dF:=far_dig HO.out.rdig (d:=b.t - a.t) (by have:=HO.out.times b hmb;omega)
     have dU:=((HO.out.ivs b hmb).2.1.sub (HO.out.ivs a hma).2.2)
     have dV:=((HO.out.ivs a hma).2.1.sub (HO.out.ivs b hmb).2.2)
     simp only at dF
     have MU:=fun W (H:Env W) bf (hr:Row W bf _)=>dfar1 (dU.mono (by omega)) (dF.mono (by omega)) bf W H hr
     have MV:=fun W (H:Env W) bf (hr:Row W bf _)=>dfar1 (dV.mono (by omega)) (dF.mono (by omega)) bf W H hr
     unfold GapOk PV Q at MG
     unfold BoolOk Q at MU MV
     generalize b.iv.lo - a.iv.hi=u at *
     generalize a.iv.lo - b.iv.hi=v at *
     generalize far r (b.t - a.t)=f at *
     clear dU dV dF hab2 hmb
     have HK:=Lib.hid hik
     have hadd:IntKind.i64.wrap ((k:Int)+1)=((k+1:Nat):Int):=by rw [IntKind.wrap_i64];omega
     obtain ⟨g',cur2,hg2,rg,g0,g1,g2,g3,g4⟩:=PAt.at (PAt.below HPo.out hB) hkl
     simp only [Option.some.injEq,Addr.mk.injEq,and_true] at hg2
     subst hg2
     rw [← hb] at g0 g1 g2 g3 g4
     have HBB:=Lib.hid hb
     clear hb
     have Fg:∀ X,Row X g (.cells cur2 32)→(g<X.heap.size∧X.cell? ⟨g,k * 5,none⟩=some (.int .i64 (b.t:Int))∧X.cell? ⟨g,k * 5+1,none⟩=some (.string (S b.iv.lo.num))∧X.cell? ⟨g,k * 5+2,none⟩=some (.string (S (b.iv.lo.den:Int)))∧X.cell? ⟨g,k * 5+3,none⟩=some (.string (S b.iv.hi.num))∧X.cell? ⟨g,k * 5+4,none⟩=some (.string (S (b.iv.hi.den:Int)))):=fun X h=>⟨h.1,Row.cell_at h _ g0,Row.cell_at h _ g1,Row.cell_at h _ g2,Row.cell_at h _ g3,Row.cell_at h _ g4⟩
     have sg:=Fg _ rg
     go_wp2_with fail
     have dh_u:=rh.1
     have da_u:=ra.1
     have dg_u:=rg.1
     have d0_u:=hB.size
     have dh_v:=rh.1
     have da_v:=ra.1
     have dg_v:=rg.1
     have d0_v:=hB.size
     have dh_f:=rh.1
     have da_f:=ra.1
     have dg_f:=rg.1
     have d0_f:=hB.size
     refine wp_region_late 17 [11,12,13] [.val (.pointer (some ⟨bh,0,none⟩)),.val (.agg #[.string (S r.num),.string (S (r.den:Int))]),.val (.agg #[.int .i64 (a.t:Int),.string (S a.iv.lo.num),.string (S (a.iv.lo.den:Int)),.string (S a.iv.hi.num),.string (S (a.iv.hi.den:Int))]),.val (.pointer (some ⟨bh,2,none⟩)),.val (.slice (some ⟨g,0,none⟩) m c),.val (.int .i64 (k:Int)),.val (.pointer (some ⟨g,k * 5,none⟩)),.val (.agg #[.int .i64 (b.t:Int),.string (S b.iv.lo.num),.string (S (b.iv.lo.den:Int)),.string (S b.iv.hi.num),.string (S (b.iv.hi.den:Int))]),.val (.tuple #[.agg #[.string (S u.num),.string (S (u.den:Int))],.agg #[.string (S v.num),.string (S (v.den:Int))],.agg #[.string (S f.num),.string (S (f.den:Int))],.bool true]),.val (.tuple #[.agg #[.string (S u.num),.string (S (u.den:Int))],.agg #[.string (S v.num),.string (S (v.den:Int))],.agg #[.string (S f.num),.string (S (f.den:Int))],.bool true]),.val (.agg #[.string (S u.num),.string (S (u.den:Int))]),.val (.agg #[.string (S v.num),.string (S (v.den:Int))]),.val (.agg #[.string (S f.num),.string (S (f.den:Int))]),.val (.bool true),.say (fresh _ (.cells #[.string ⟨#[]⟩,.string ⟨#[]⟩] 23)),.say (fresh _ (.cells #[.string ⟨#[]⟩,.string ⟨#[]⟩] 23)),.say (fresh _ (.cells #[.string ⟨#[]⟩,.string ⟨#[]⟩] 23))] [6,7,8] (by kernel_rfl) (by kernel_rfl) (by kernel_rfl) rfl ⟨fresh_mono _ _,⟨fresh_mono _ _,⟨fresh_mono _ _,trivial⟩⟩⟩ (allItems.cons qi0 (allItems.cons (qi1 fun X h=>RF3 (Row.below rh h)) (allItems.cons (qi1 fun X h=>RF5 (Row.below ra h)) (allItems.cons qi0 (allItems.cons (qi1 fun X h=>RF3 (Row.below rh h)) (allItems.cons qi0 (allItems.cons (qif hkI) (allItems.cons (qi1 fun X h=>Fg X (Row.below rg h)) (allItems.cons (qi2 fun X h=>MG X (he.below (hB.trans (h.mono hB.size)))) (allItems.cons qi0 (allItems.cons qi0 (allItems.cons qi0 (allItems.cons qi0 (allItems.cons qi0 (allItems.cons qia (allItems.cons qia (allItems.cons qia trivial))))))))))))))))) ?_
     rintro W h1
     clear sh
     clear sa
     clear sg
     replace hB:=hB.trans (h1.mono hB.size)
     replace rh:=Row.below rh h1
     replace ra:=Row.below ra h1
     replace rg:=Row.below rg h1
     clear h1
     have sh:=RF3 rh
     have sa:=RF5 ra
     have sg:=Fg _ rg
     simp only [setItems,List.setIfInBounds_toArray,List.set_cons_succ,List.set_cons_zero,List.take_succ_cons,List.take_zero,List.drop_succ_cons,List.drop_zero]
     rintro _ ⟨pu,rfl,hu,ru⟩
     replace dh_u:=Nat.lt_of_lt_of_le dh_u hu
     replace da_u:=Nat.lt_of_lt_of_le da_u hu
     replace dg_u:=Nat.lt_of_lt_of_le dg_u hu
     replace d0_u:=Nat.le_trans d0_u hu
     have su:=RFz2 ru
     rintro _ ⟨pv,rfl,hv,rv⟩
     replace dh_v:=Nat.lt_of_lt_of_le dh_v hv
     replace da_v:=Nat.lt_of_lt_of_le da_v hv
     replace dg_v:=Nat.lt_of_lt_of_le dg_v hv
     replace d0_v:=Nat.le_trans d0_v hv
     have sv:=RFz2 rv
     rintro _ ⟨pf,rfl,hf,rf⟩
     replace dh_f:=Nat.lt_of_lt_of_le dh_f hf
     replace da_f:=Nat.lt_of_lt_of_le da_f hf
     replace dg_f:=Nat.lt_of_lt_of_le dg_f hf
     replace d0_f:=Nat.le_trans d0_f hf
     have sf:=RFz2 rf
     intro hap
     have ap:=apart3 hap
     clear hap
     have nu_v:pu≠pv:=fun e=>ap.1 (by subst e;rfl)
     have nu_f:pu≠pf:=fun e=>ap.2.1 (by subst e;rfl)
     have nv_f:pv≠pf:=fun e=>ap.2.2 (by subst e;rfl)
     clear ap
     go_wp2_with fail
     unfold normalQ
     go_upto_region 8 with fail
     have sB:=hB.size
     refine wp_cut (fun X=>Below wi.heap.size wi X∧Row X bh (.cells #[.string (S r.num),.string (S (r.den:Int)),.slice (some ⟨g,0,none⟩) m c] 26)∧Row X ab (.cells #[.int .i64 (a.t:Int),.string (S a.iv.lo.num),.string (S (a.iv.lo.den:Int)),.string (S a.iv.hi.num),.string (S (a.iv.hi.den:Int))] 32)∧Row X g (.cells cur2 32)∧Row X pu (.cells #[.string (S u.num),.string (S (u.den:Int))] 23)∧Row X pv (.cells #[.string (S v.num),.string (S (v.den:Int))] 23)∧Row X pf (.cells #[.string (S f.num),.string (S (f.den:Int))] 23)) ⟨BW,RWh,RWh,RWh,RWh,RWh,RWh⟩ ?_
     clear rh
     clear sh
     clear ra
     clear sa
     clear rg
     clear sg
     clear ru
     clear su
     clear rv
     clear sv
     clear rf
     clear sf
     clear hB sB
     rintro V2 ⟨hB,rh,ra,rg,ru,rv,rf⟩
     have sh:=RF3 rh
     have sa:=RF5 ra
     have sg:=Fg _ rg
     skip
     have su:=RFz2 ru
     skip
     have sv:=RFz2 rv
     skip
     have sf:=RFz2 rf
     have HJk:=Lib.hid hJk
     clear hJk
     have HPb:Hid (∀ X,Below wi.heap.size wi X→PAt X (some ⟨g,0,none⟩) l):=Lib.hid (fun X h=>PAt.below HPo.out h)
     clear HPo
     refine wp_opaque n fun Qk HQk => ?_
     have MU2:=fun W H hr=>MU W H pf hr
     have MV2:=fun W H hr=>MV W H pf hr
     clear MU MV
     by_cases hu:0<cmpQ u f
     ·have hyes:cAt ⟨r,l⟩ i k=true:=by rw [hHc.out,decide_eq_true hu];rfl
      rw [decide_eq_true hu] at MU2
      clear hu MV2
      gi_wp2_with (first
        | (refine ⟨trivial,?_⟩;gi_at_call 132; refine (callsIn_wide.2 (MU2 _ (he.below hB) rf)).mono ?_;clear MU2;rintro e W2 ⟨rfl,h1⟩;replace hB:=hB.trans (h1.mono hB.size);replace rh:=Row.below rh h1;replace ra:=Row.below ra h1;replace ru:=Row.below ru h1;replace rv:=Row.below rv h1;replace rf:=Row.below rf h1;clear h1;have cu0:=Row.cell_at ru 0 rfl;have cu1:=Row.cell_at ru 1 rfl;have cv0:=Row.cell_at rv 0 rfl;have cv1:=Row.cell_at rv 1 rfl;have cf0:=Row.cell_at rf 0 rfl;have cf1:=Row.cell_at rf 1 rfl;obtain ⟨yf,yt,ya,yb,hy,hR⟩:=HY.out (conUp (cAt ⟨r,l⟩) m i ++ rowUp (cAt ⟨r,l⟩) i k) (i,k) W2 (abides_below HJ HJk.out hB) (pre_len _ hfew hlt hlk);simp only [encP] at hy))
      have HHPW:=HPb.out _ hB
      refine ⟨fun _ h=>(by cases h),?_⟩
      gi_wp2
      refine hR.mono ?_
      rintro e W3 (⟨rfl,hJ3,hk3⟩ | ⟨rfl,hJx3⟩)
      ·gi_wp2
       rw [HQk.out]
       go_wp2
       go_roundw
       case rel=>exact ⟨k+1,by go_num,by omega,by omega,by rw [rowUp_yes HK.out hyes,← List.append_assoc];exact hJ3,(hE.trans (hB.mono hE.size)).trans hk3.below,hk3.row rh,hk3.pat (HHPW),hk3.row ra⟩
       case measure=>simp [RowKit.intOf];try omega
      ·gi_wp2
       rw [HQk.out]
       go_wp2
       refine bodyPost_ret (results_none rfl _ _ _) rfl ?_
       exact ⟨⟨_,rfl⟩,.inr ⟨_,cons_ne HK.out hkl hyes,hJx3⟩⟩
     ·by_cases hv:0<cmpQ v f
      ·have hyes:cAt ⟨r,l⟩ i k=true:=by rw [hHc.out,decide_eq_false hu,decide_eq_true hv];rfl
       rw [decide_eq_false hu] at MU2
       rw [decide_eq_true hv] at MV2
       clear hu hv
       gi_wp2_with (first
         | (refine ⟨trivial,?_⟩;gi_at_call 132; refine (callsIn_wide.2 (MU2 _ (he.below hB) rf)).mono ?_;clear MU2;rintro e W1 ⟨rfl,h1⟩;replace hB:=hB.trans (h1.mono hB.size);replace rh:=Row.below rh h1;replace ra:=Row.below ra h1;replace ru:=Row.below ru h1;replace rv:=Row.below rv h1;replace rf:=Row.below rf h1;clear h1;have cu0:=Row.cell_at ru 0 rfl;have cu1:=Row.cell_at ru 1 rfl;have cv0:=Row.cell_at rv 0 rfl;have cv1:=Row.cell_at rv 1 rfl;have cf0:=Row.cell_at rf 0 rfl;have cf1:=Row.cell_at rf 1 rfl)
         | (refine ⟨trivial,?_⟩;gi_at_call 132; refine (callsIn_wide.2 (MV2 _ (he.below hB) rf)).mono ?_;clear MV2;rintro e W2 ⟨rfl,h1⟩;replace hB:=hB.trans (h1.mono hB.size);replace rh:=Row.below rh h1;replace ra:=Row.below ra h1;replace ru:=Row.below ru h1;replace rv:=Row.below rv h1;replace rf:=Row.below rf h1;clear h1;have cu0:=Row.cell_at ru 0 rfl;have cu1:=Row.cell_at ru 1 rfl;have cv0:=Row.cell_at rv 0 rfl;have cv1:=Row.cell_at rv 1 rfl;have cf0:=Row.cell_at rf 0 rfl;have cf1:=Row.cell_at rf 1 rfl;obtain ⟨yf,yt,ya,yb,hy,hR⟩:=HY.out (conUp (cAt ⟨r,l⟩) m i ++ rowUp (cAt ⟨r,l⟩) i k) (i,k) W2 (abides_below HJ HJk.out hB) (pre_len _ hfew hlt hlk);simp only [encP] at hy))
       have HHPW:=HPb.out _ hB
       refine hR.mono ?_
       rintro e W3 (⟨rfl,hJ3,hk3⟩ | ⟨rfl,hJx3⟩)
       ·gi_wp2
        rw [HQk.out]
        go_wp2
        go_roundw
        case rel=>exact ⟨k+1,by go_num,by omega,by omega,by rw [rowUp_yes HK.out hyes,← List.append_assoc];exact hJ3,(hE.trans (hB.mono hE.size)).trans hk3.below,hk3.row rh,hk3.pat (HHPW),hk3.row ra⟩
        case measure=>simp [RowKit.intOf];try omega
       ·gi_wp2
        rw [HQk.out]
        go_wp2
        refine bodyPost_ret (results_none rfl _ _ _) rfl ?_
        exact ⟨⟨_,rfl⟩,.inr ⟨_,cons_ne HK.out hkl hyes,hJx3⟩⟩
      ·have hno:cAt ⟨r,l⟩ i k=false:=by rw [hHc.out,decide_eq_false hu,decide_eq_false hv];rfl
       rw [decide_eq_false hu] at MU2
       rw [decide_eq_false hv] at MV2
       clear hu hv
       gi_wp2_with (first
         | (refine ⟨trivial,?_⟩;gi_at_call 132; refine (callsIn_wide.2 (MU2 _ (he.below hB) rf)).mono ?_;clear MU2;rintro e W1 ⟨rfl,h1⟩;replace hB:=hB.trans (h1.mono hB.size);replace rh:=Row.below rh h1;replace ra:=Row.below ra h1;replace ru:=Row.below ru h1;replace rv:=Row.below rv h1;replace rf:=Row.below rf h1;clear h1;have cu0:=Row.cell_at ru 0 rfl;have cu1:=Row.cell_at ru 1 rfl;have cv0:=Row.cell_at rv 0 rfl;have cv1:=Row.cell_at rv 1 rfl;have cf0:=Row.cell_at rf 0 rfl;have cf1:=Row.cell_at rf 1 rfl)
         | (refine ⟨trivial,?_⟩;gi_at_call 132; refine (callsIn_wide.2 (MV2 _ (he.below hB) rf)).mono ?_;clear MV2;rintro e W2 ⟨rfl,h1⟩;replace hB:=hB.trans (h1.mono hB.size);replace rh:=Row.below rh h1;replace ra:=Row.below ra h1;replace ru:=Row.below ru h1;replace rv:=Row.below rv h1;replace rf:=Row.below rf h1;clear h1;have cu0:=Row.cell_at ru 0 rfl;have cu1:=Row.cell_at ru 1 rfl;have cv0:=Row.cell_at rv 0 rfl;have cv1:=Row.cell_at rv 1 rfl;have cf0:=Row.cell_at rf 0 rfl;have cf1:=Row.cell_at rf 1 rfl))
       have HHPW:=HPb.out _ hB
       refine ⟨fun _ h=>(by cases h),?_⟩
       gi_wp2
       rw [HQk.out]
       go_wp2
       go_roundw
       case rel=>exact ⟨k+1,by go_num,by omega,by omega,by rw [rowUp_no hno];exact abides_below HJ HJk.out hB,hE.trans (hB.mono hE.size),rh,HHPW,ra⟩
       case measure=>simp [RowKit.intOf];try omega
    ·have sh:=RF3 rh
     obtain rfl:k=m:=by omega
     go_wp2
     go_roundw
     case rel=>exact ⟨i+1,by go_num,by omega,by rw [conUp_succ];exact hJk,hE,rh,HPo.out⟩
     case measure=>simp [RowKit.intOf];try omega
  ·have sh:=RF3 rh
   obtain rfl:i=m:=by omega
   go_wp2
   go_end0
   exact ⟨⟨_,rfl⟩,.inl ⟨_,by unfold cons;simp only [HM.out],hJi⟩⟩
end Go.Proofs.YtnokpldomlmamaaGreatDoor
