/-
 slices.Clone and slices.Insert at points: whatever room there is. drift.Known at valid histories, and what Search finds there. Regions that draw their order, make several new blocks, and end in stores: the new blocks lie apart, whatever the order.
-/
import Derived.Deep.DeepCutAuto
import Derived.Deep.RegionHeld3
import Derived.Deep.RegionLaw
import Derived.Laws.CopyOwn
import Derived.Shelf.Spec.SlicesInsertGrow
import Derived.Test.YtnokpldomlmamaaGreatDoorODValid
import Derived.Test.YtnokpldomlmamaaGreatDoorORound
import Derived.Test.YtnokpldomlmamaaGreatDoorOTail
set_option linter.unusedSimpArgs false
set_option linter.unusedVariables false
set_option maxRecDepth 100000
set_option maxHeartbeats 16000000
namespace Go.Proofs.YtnokpldomlmamaaGreatDoor
open Go Go.RowKit Go.Lib Go.Shelf
theorem pointInfo:(Tryz.prog.info? 32).map (fun i=>(i.zero,i.size,i.bytes))=some (some (.agg #[.int .i64 0,.string ⟨#[]⟩,.string ⟨#[]⟩,.string ⟨#[]⟩,.string ⟨#[]⟩]),5,72):=by kernel_rfl
/-- 'copy(d, s)' into a row, elements of k cells. -/
theorem run_copy_rowK {P:Program} (w:World) (dT sT ty elem:TypeId) (k m g o dLen dCap:Nat) (a:Addr) (sLen sCap:Nat) (cur:Array Value) (t:TypeId) (cs:List Value)
  (hu:P.underlying dT=some (.slice elem)) (hs:(P.info? elem).map (·.size)=some k)
  (hg:w.heap[g]? = some (.cells cur t (0,0))) (hm:m=Nat.min sLen dLen) (hn:cs.length=m * k)
  (hsrc:∀ j v,cs[j]? = some v→w.cell? (a.add j)=some v) (hfit:o+cs.length≤cur.size) (h1:∀ v ∈ cs,v.oneCell'=true) :
  (Builtin.copy_ #[dT,sT] ty #[.slice (some ⟨g,o,none⟩) dLen dCap,.slice (some a) sLen sCap]).run P w =
   .ok (goInt m) (w.setRow g (cur.toList.take o ++ cs ++ cur.toList.drop (o+cs.length)).toArray):=by
 have hl:=run_loadCells_list (P:=P) w a cs hsrc
 have hst:=run_storeCells_at P g o t cs 0 cur w hg (by simpa using hfit) h1
 cases hq:P.info? elem with
 | none=>simp [hq] at hs
 | some i =>
  have hi:i.size=k:=by simpa [hq] using hs
  simp [Builtin.copy_,run_underlying hu,Builtin.lenOf,Builtin.firstCells,sizeOf,typeInfo,hq,hi,← hm,← hn,hl,hst]
theorem slice_eql_nil (w:World) (a:Option Addr) (n c n' c':Nat):(binOp .eql 24 (.slice a n c) (.slice none n' c')).run Tryz.prog w = .ok (.bool a.isNone) w:=Lib.run_eql_slice_nil w _ _ a n c n' c' Tryz.underlying24
theorem dclone_some (g off n c:Nat) (news:List Value) (w:World) (hl:news.length=n * 5) (hn:n≤1000) (hc:∀ j u,news[j]? = some u→w.cell? ⟨g,off+j,none⟩=some u) (h1:∀ u ∈ news,u.oneCell'=true) :
  Calls Tryz.prog 64 #[.slice (some ⟨g,off,none⟩) n c] w fun e w'=>∃ v',e = .returned v'∧w'.ownsRow w.heap.size 32 5 v' n news∧Below w.heap.size w w':=by
 obtain ⟨i0,hi,hz0,hz1,hz2⟩:=info_parts pointInfo
 have q22:=slice_eql_nil
 have A:=Lib.hid hc
 clear hc
 go_enter Tryz.func64, Tryz.ntmps64
 go_wp2_with (at_builtin;refine wpList_append_own _ rfl _ _ 24 rfl w.heap.size 32 i0 (.agg #[.int .i64 0,.string ⟨#[]⟩,.string ⟨#[]⟩,.string ⟨#[]⟩,.string ⟨#[]⟩]) 5 72 Tryz.underlying24 hi hz0 hz1 hz2 rfl (by decide) _ _ _ rfl (World.ownsRow_made w #[] 0 (Nat.le_refl _) (Nat.zero_le _) (by simp)) ⟨g,off,none⟩ n c news rfl ?qc1 ?qc2 ?qc3 ?qc4 ?qc5 ?qc6 ?_)
 case qc1=>exact hl
 case qc2 =>
  intro j u hj
  rw [Addr.add_lit]
  exact Lib.cell?_alloc_some _ (A.out j u hj)
 case qc3=>exact h1
 case qc4=>unfold maxLen;omega
 case qc5=>omega
 case qc6=>simp
 intro v' w1 hown hgrow hnil
 go_wp2
 go_ret
 exact ⟨v',rfl,by simpa using hown,((Below.refl _ w).alloc (Nat.le_refl _) _).grown hgrow (by simp) (by intro k hk;simp [Value.ownBlock] at hk;omega)⟩
theorem dclone_nil (n c:Nat) (w:World):Calls Tryz.prog 64 #[.slice none n c] w fun e w'=>e = .returned (.slice none 0 0)∧w'=w:=by
 have q22:=slice_eql_nil
 go_enter Tryz.func64, Tryz.ntmps64
 go_wp2
 go_ret
 exact ⟨rfl,rfl⟩
theorem PAt.take {W:World} {p:Option Addr} {l:List Pt} (h:PAt W p l) (k:Nat):PAt W p (l.take k):=by
 rcases h with ⟨rfl,h⟩ | ⟨g,cur,rfl,hr,hx⟩
 ·exact .inl ⟨by simp,h⟩
 ·refine .inr ⟨g,cur,rfl,hr,?_⟩
  rw [pCells_take,← hx,List.take_take,List.length_take]
  rcases Nat.le_total k l.length with h | h
  ·rw [Nat.min_eq_left h,Nat.min_eq_left (by omega)]
  ·rw [Nat.min_eq_right h,Nat.min_eq_right (by omega)]
/-- slices.Clone at points. -/
theorem dclone {l:List Pt} (p:Option Addr) (n c:Nat) (hn:l.length=n) (hn1:n≤1000) (w:World) (hp:PAt w p l) :
  Calls Tryz.prog 64 #[.slice p n c] w fun e w'=>∃ v',e = .returned v'∧w'.ownsRow w.heap.size 32 5 v' n (pCells l)∧Below w.heap.size w w':=by
 rcases p with _ | ⟨g,off,sp⟩
 ·have hl:l=[]:=by
   rcases hp with ⟨h,_⟩ | ⟨g,cur,h,_⟩
   ·exact h
   ·cases h
  subst hl
  subst hn
  exact (dclone_nil _ _ w).mono fun e w' ⟨h1,h2⟩=>⟨_,h1,World.ownsRow_nil _ _ _ _,h2 ▸ Below.refl _ _⟩
 ·rcases hp with ⟨h,h2⟩ | ⟨g',cur,h,hr,hx⟩
  ·subst h
   subst hn
   rcases h2 with h2 | ⟨g',h2⟩
   ·cases h2
   ·cases h2
    exact (dclone_some g 0 0 c [] w rfl (by omega) (by simp) (by simp)).mono fun e w' h=>h
  ·cases h
   subst hn
   exact dclone_some g 0 _ c (pCells l) w (pCells_length l) hn1 (fun j u hj=>by rw [Nat.zero_add];exact Row.cell_take hr hx hj) (pCells_one l)
theorem ins_abs {α:Type} (A P B T vs:List α) (hP:P.length=5) (hv:vs.length=5) :
  ((A ++ P ++ B ++ T).take A.length ++ vs ++ (A ++ P ++ B ++ T).drop (A.length+vs.length)).take (A.length+B.length+5)=A ++ vs ++ B:=by
 have e1:(A ++ P ++ B ++ T).take A.length=A:=by rw [List.append_assoc,List.append_assoc,List.take_left]
 have e2:(A ++ P ++ B ++ T).drop (A.length+vs.length)=B ++ T:=by
  rw [hv,← hP,← List.length_append,List.append_assoc (A ++ P),List.drop_left]
 rw [e1,e2,← List.append_assoc]
 have:A.length+B.length+5=(A ++ vs ++ B).length:=by simp [hv];omega
 rw [this,List.take_left]
theorem ins_list {α:Type} {cur cs vs:List α} {a b:Nat} (hx:cur.take b=cs) (hb:b+5≤cur.length) (ha:a≤b) (hv:vs.length=5) (T:List α) :
  (((cur.take (a+5) ++ cs.drop a ++ T).take a ++ vs ++ (cur.take (a+5) ++ cs.drop a ++ T).drop (a+vs.length)).take (b+5))=cs.take a ++ vs ++ cs.drop a:=by
 have hA:(cs.take a).length=a:=by rw [← hx];simp;omega
 have hB:a+(cs.drop a).length=b:=by rw [← hx];simp;omega
 have hP:((cur.drop a).take 5).length=5:=by simp;omega
 have e:cur.take (a+5)=cs.take a ++ (cur.drop a).take 5:=by rw [List.take_add,← hx,List.take_take,Nat.min_eq_left ha]
 have:=ins_abs (cs.take a) ((cur.drop a).take 5) (cs.drop a) T vs hP hv
 rw [hA] at this
 rw [show a+(cs.drop a).length+5=b+5 by omega] at this
 rw [e]
 exact this
theorem ins_size {α:Type} {cur cs vs T:List α} {a b:Nat} (hx:cur.take b=cs) (hb:b+5≤cur.length) (ha:a≤b) (hv:vs.length=5) (hT:T=cur.drop (a+5+(cs.drop a).length)) :
  (cur.take (a+5) ++ cs.drop a ++ T).length=cur.length∧((cur.take (a+5) ++ cs.drop a ++ T).take a ++ vs ++ (cur.take (a+5) ++ cs.drop a ++ T).drop (a+vs.length)).length=cur.length:=by
 have hB:(cs.drop a).length=b - a:=by rw [← hx];simp;omega
 have h1:(cur.take (a+5) ++ cs.drop a ++ T).length=cur.length:=by
  have hc:cs.length=b:=by rw [← hx];simp;omega
  subst hT
  simp only [List.length_append,List.length_drop,List.length_take,hc];omega
 refine ⟨h1,?_⟩
 rw [List.length_append,List.length_append,List.length_take,List.length_drop,h1,hv]
 omega
theorem insOverlaps (w:World) (g vb o m vc lb cb kg:Nat) (cur vs:Array Value) (hg:Row w g (.cells cur 32)) (hk:cur.size≠0) (hv:Row w vb (.cells vs 32)) (hne:vb≠g) :
  (callFunc 145 #[.slice (some ⟨vb,0,none⟩) m vc,.slice (some ⟨g,o,none⟩) lb cb]).run Tryz.prog w = .ok (.value (.bool false)) w:=by
 have h1:=hg.2
 have h2:=hv.2
 have hsz:∀ w,(Go.sizeOf 32).run Tryz.prog w = .ok 5 w:=fun w=>by
  obtain ⟨i0,hi,hz0,hz1,hz2⟩:=info_parts pointInfo
  simp [Go.sizeOf,typeInfo,hi,hz1]
 rw [run_callFunc_extern Tryz.func145 (by kernel_rfl) (by kernel_rfl) (by kernel_rfl) (e:=Extern.SlicesOverlaps.overlaps #[24, 24] #[4]) (by kernel_rfl),
  Lib.run_overlaps_apart w 24 4 32 Tryz.underlying24 5 hsz ⟨vb,0,none⟩ ⟨g,o,none⟩ m vc lb cb hne 32 32 vs.size cur.size (by simp [World.shape?,h2]) (by simp [World.shape?,h1]) hk (by simp [World.frozen?,h2]) (by simp [World.frozen?,h2])]
 rfl
theorem dinsert_shift (g n c i vb:Nat) (cur:Array Value) (cs vs:List Value) (w:World) (hi:i<n) (hroom:n+1≤c) (hc:c≤9223372036854775807) (hg:Row w g (.cells cur 32)) (hsz:cur.size=c * 5)
  (hx:cur.toList.take (n * 5)=cs) (hv:Row w vb (.cells vs.toArray 32)) (hvl:vs.length=5) (hne:vb≠g) (h1c:∀ v ∈ cs,v.oneCell'=true) (h1v:∀ v ∈ vs,v.oneCell'=true) (R1 R2:List Value)
  (hR1:R1=cur.toList.take (i * 5+5) ++ cs.drop (i * 5) ++ cur.toList.drop (i * 5+5+(cs.drop (i * 5)).length)) (hR2:R2=R1.take (i * 5) ++ vs ++ R1.drop (i * 5+vs.length)) :
  Calls Tryz.prog 66 #[.slice (some ⟨g,0,none⟩) n c,.int .i64 i,.slice (some ⟨vb,0,none⟩) 1 1] w fun e w' =>
   e = .returned (.slice (some ⟨g,0,none⟩) (n+1) c)∧w'=(w.drew.setRow g R1.toArray).setRow g R2.toArray:=by
 have hcl:cs.length=n * 5:=by rw [← hx];simp;omega
 have hdl:(cs.drop (i * 5)).length=(n - i) * 5:=by rw [List.length_drop,hcl];omega
 obtain ⟨hl1,hl2⟩:=ins_size (vs:=vs) (b:=n * 5) hx (by simp;omega) (show i * 5≤n * 5 by omega) hvl rfl
 rw [← hR1] at hl1 hl2
 rw [← hR2] at hl2
 have hps:(Tryz.prog.info? 32).map (·.size)=some 5:=by
  obtain ⟨i0,hi0,h0,h1,h2⟩:=info_parts pointInfo
  rw [hi0];simp [h1]
 have hcp1:∀ ty dc sc,(Builtin.copy_ #[24, 24] ty #[.slice (some ⟨g,(i+1) * 5,none⟩) (n - i) dc,.slice (some ⟨g,i * 5,none⟩) (n+1 - i) sc]).run Tryz.prog w.drew = .ok (goInt ((n - i:Nat):Int)) (w.drew.setRow g R1.toArray):=fun ty dc sc=>by
  rw [run_copy_rowK w.drew _ _ ty 32 5 (n - i) g ((i+1) * 5) (n - i) dc ⟨g,i * 5,none⟩ (n+1 - i) sc cur 32 (cs.drop (i * 5)) Tryz.underlying24 hps hg.2 (by simp only [Nat.min_def];split <;> omega) hdl
   (fun j v hj=>by rw [Addr.add_lit];exact Row.cell_take (W:=w.drew) hg hx (by rwa [List.getElem?_drop] at hj)) (by rw [hdl,hsz];omega) (fun v hv=>h1c v (List.mem_of_mem_drop hv))]
  rw [hR1,show (i+1) * 5=i * 5+5 by omega]
 have hg1:(w.drew.setRow g R1.toArray).heap[g]? = some (.cells R1.toArray 32 (0,0)):=setRow_heap w.drew g cur _ _ _ hg.2
 have hcp2:∀ (W:World),W.heap=(w.drew.setRow g R1.toArray).heap→∀ ty dc,(Builtin.copy_ #[24, 24] ty #[.slice (some ⟨g,i * 5,none⟩) (n+1 - i) dc,.slice (some ⟨vb,0,none⟩) 1 1]).run Tryz.prog W = .ok (goInt ((1:Nat):Int)) (W.setRow g R2.toArray):=fun W hW ty dc=>by
  rw [run_copy_rowK W _ _ ty 32 5 1 g (i * 5) (n+1 - i) dc ⟨vb,0,none⟩ 1 1 R1.toArray 32 vs Tryz.underlying24 hps (by rw [hW];exact hg1) (by simp only [Nat.min_def];split <;> omega) (by omega)
   (fun j v hj=>by
    rw [Addr.add_lit,Nat.zero_add]
    have:W.heap[vb]? = some (.cells vs.toArray 32 (0,0)):=by rw [hW,setRow_other _ _ _ _ hne];exact hv.2
    simp [World.cell?,this,hj]) (by simp [hl1];omega) h1v,List.toList_toArray,← hR2]
 have hov:∀ lb cb,(callFunc 145 #[.slice (some ⟨vb,0,none⟩) 1 1,.slice (some ⟨g,(i+1) * 5,none⟩) lb cb]).run Tryz.prog w = .ok (.value (.bool false)) w:=fun lb cb=>insOverlaps w g vb _ 1 1 lb cb 0 cur vs.toArray hg (by omega) hv hne
 have hz2:¬ ((i:Int)=(n:Int)):=by omega
 have hz3:¬ ((c:Int)<(n:Int)+1):=by omega
 have hw1:IntKind.i64.wrap ((i:Int)+1)=(i:Int)+1:=by rw [IntKind.wrap_i64];omega
 have hw2:IntKind.i64.wrap ((n:Int)+1)=(n:Int)+1:=by rw [IntKind.wrap_i64];omega
 have htn:((i:Int)+1).toNat=i+1:=by omega
 have htn2:((n:Int)+1).toNat=n+1:=by omega
 have hb2:¬ (c=i+1):=by omega
 have hb1:(0:Int)≤(i:Int)+1:=by omega
 have hin:i≤n:=by omega
 have hb3:(i:Int)≤(n:Int)+1:=by omega
 have hb4:¬ (c=i):=by omega
 have mixed:Tryz.prog.follows .mixedOrders=true:=by kernel_rfl
 have H2:=Lib.hid hcp2
 clear hcp2 hR1 hR2 hl1 hl2 hdl hcl hx hsz hg hv hg1 h1c h1v
 go_enter Tryz.func66, Tryz.ntmps66
 go_wp2_with (simp only [hov])
 go_region_law_o (refine step_copy_runI rfl _ _ 24 24 rfl _ _ (by simp [Act.eval,Act.put]) (by simp [Act.eval,Act.put]) (hcp1 _ _ _) ?_)
 have hcp2:=fun ty dc=>H2.out (w.drew.setRow g R1.toArray) rfl ty dc
 go_wp2
 go_ret
 exact ⟨rfl,rfl⟩
theorem news_at {W:World} {b:Nat} {xs:List Value} {t:TypeId} (h:Row W b (.cells xs.toArray t)):∀ j u,xs[j]? = some u→W.cell? ((⟨b,0,none⟩:Addr).add j)=some u:=fun j u hu=>by
 rw [Addr.add_lit,Nat.zero_add]
 exact Row.cell_at h j (by simpa using hu)
theorem dinsert_nil (base vb:Nat) (cs vs:List Value) (w:World) (hb:base≤w.heap.size) (ho:w.ownsRow base 32 5 (.slice none 0 0) 0 cs)
  (hv:Row w vb (.cells vs.toArray 32)) (hvl:vs.length=5) (h1v:∀ v ∈ vs,v.oneCell'=true) :
  Calls Tryz.prog 66 #[.slice none 0 0,.int .i64 0,.slice (some ⟨vb,0,none⟩) 1 1] w fun e w' =>
   ∃ s,e = .returned s∧w'.ownsRow base 32 5 s (0+1) (cs ++ vs)∧w.grownBy w' none:=by
 obtain ⟨i0,hi,hz0,hz1,hz2⟩:=info_parts pointInfo
 have HV:=Lib.hid (news_at hv)
 have HO:=Lib.hid ho
 clear hv ho
 go_enter Tryz.func66, Tryz.ntmps66
 go_wp2_with (at_builtin;refine wpList_append_own _ rfl _ _ 24 rfl base 32 i0 (.agg #[.int .i64 0,.string ⟨#[]⟩,.string ⟨#[]⟩,.string ⟨#[]⟩,.string ⟨#[]⟩]) 5 72 Tryz.underlying24 hi hz0 hz1 hz2 rfl (by decide) _ 0 cs rfl HO.out ⟨vb,0,none⟩ 1 1 vs rfl (by omega) HV.out h1v (by unfold maxLen;omega) (by omega) hb ?_;intro v' w1 hown hgrow hnil;have hq:=Lib.hid (And.intro hown hgrow);clear hown hgrow hnil)
 go_ret
 exact ⟨_,rfl,hq.out⟩
theorem dinsert_full (g base n vb:Nat) (cs vs:List Value) (hn:n≤1000) (w:World) (hb:base≤w.heap.size) (ho:w.ownsRow base 32 5 (.slice (some ⟨g,0,none⟩) n n) n cs)
  (hv:Row w vb (.cells vs.toArray 32)) (hvl:vs.length=5) (h1v:∀ v ∈ vs,v.oneCell'=true) :
  Calls Tryz.prog 66 #[.slice (some ⟨g,0,none⟩) n n,.int .i64 n,.slice (some ⟨vb,0,none⟩) 1 1] w fun e w' =>
   ∃ s,e = .returned s∧w'.ownsRow base 32 5 s (n+1) (cs ++ vs)∧w.grownBy w' (some g):=by
 obtain ⟨i0,hi,hz0,hz1,hz2⟩:=info_parts pointInfo
 have HV:=Lib.hid (news_at hv)
 have HO:=Lib.hid ho
 clear hv ho
 have h00:(0:Int)≤(n:Int):=by omega
 go_enter Tryz.func66, Tryz.ntmps66
 go_wp2_with (at_builtin;refine wpList_append_own _ rfl _ _ 24 rfl base 32 i0 (.agg #[.int .i64 0,.string ⟨#[]⟩,.string ⟨#[]⟩,.string ⟨#[]⟩,.string ⟨#[]⟩]) 5 72 Tryz.underlying24 hi hz0 hz1 hz2 rfl (by decide) _ n cs rfl HO.out ⟨vb,0,none⟩ 1 1 vs rfl (by omega) HV.out h1v (by unfold maxLen;omega) (by omega) hb ?_;intro v' w1 hown hgrow hnil;have hq:=Lib.hid (And.intro hown hgrow);clear hown hgrow hnil)
 go_ret
 exact ⟨_,rfl,hq.out⟩
theorem dinsert_room (g base n c vb:Nat) (cs vs:List Value) (hn:n≤1000) (hnc:n<c) (w:World) (hb:base≤w.heap.size) (ho:w.ownsRow base 32 5 (.slice (some ⟨g,0,none⟩) n c) n cs)
  (hv:Row w vb (.cells vs.toArray 32)) (hvl:vs.length=5) (h1v:∀ v ∈ vs,v.oneCell'=true) :
  Calls Tryz.prog 66 #[.slice (some ⟨g,0,none⟩) n c,.int .i64 n,.slice (some ⟨vb,0,none⟩) 1 1] w fun e w' =>
   ∃ s,e = .returned s∧w'.ownsRow base 32 5 s (n+1) (cs ++ vs)∧w.grownBy w' (some g):=by
 obtain ⟨i0,hi,hz0,hz1,hz2⟩:=info_parts pointInfo
 have HV:=Lib.hid (news_at hv)
 have HO:=Lib.hid ho
 clear hv ho
 have h00:(0:Int)≤(n:Int):=by omega
 have hcn:¬ c=n:=by omega
 go_enter Tryz.func66, Tryz.ntmps66
 go_wp2_with (at_builtin;refine wpList_append_own _ rfl _ _ 24 rfl base 32 i0 (.agg #[.int .i64 0,.string ⟨#[]⟩,.string ⟨#[]⟩,.string ⟨#[]⟩,.string ⟨#[]⟩]) 5 72 Tryz.underlying24 hi hz0 hz1 hz2 rfl (by decide) _ n cs rfl HO.out ⟨vb,0,none⟩ 1 1 vs rfl (by omega) HV.out h1v (by unfold maxLen;omega) (by omega) hb ?_;intro v' w1 hown hgrow hnil;have hq:=Lib.hid (And.intro hown hgrow);clear hown hgrow hnil)
 go_ret
 exact ⟨_,rfl,hq.out⟩
theorem grow_abs {α:Type} (A vs B T1 T:List α):((A ++ vs ++ T1).take (A.length+vs.length) ++ B ++ T).take (A.length+vs.length+B.length)=A ++ vs ++ B:=by
 rw [← List.length_append,List.take_left,← List.length_append,List.take_left]
theorem dinsert_grow (g n i vb:Nat) (cur:Array Value) (cs vs:List Value) (w:World) (hi:i<n) (hn:n≤1000) (hg:Row w g (.cells cur 32))
  (hx:cur.toList.take (n * 5)=cs) (hcl:cs.length=n * 5) (hv:Row w vb (.cells vs.toArray 32)) (hvl:vs.length=5) (h1c:∀ v ∈ cs,v.oneCell'=true) (h1v:∀ v ∈ vs,v.oneCell'=true) :
  Calls Tryz.prog 66 #[.slice (some ⟨g,0,none⟩) n n,.int .i64 i,.slice (some ⟨vb,0,none⟩) 1 1] w fun e w' =>
   ∃ s,e = .returned s∧w'.ownsRow w.heap.size 32 5 s (n+1) (cs.take (i * 5) ++ vs ++ cs.drop (i * 5))∧Below w.heap.size w w':=by
 obtain ⟨i0,hi0,hz0,hzs,hzb⟩:=info_parts pointInfo
 have hps:(Tryz.prog.info? 32).map (·.size)=some 5:=by rw [hi0];simp [hzs]
 have hik:i+(n+1 - i)=n+1:=by omega
 have hAl:(cs.take (i * 5)).length=i * 5:=by rw [List.length_take,hcl];omega
 have hBl:(cs.drop (i * 5)).length=(n - i) * 5:=by rw [List.length_drop,hcl];omega
 have hold:(Builtin.firstCells i0.size i (.slice (some ⟨g,0,none⟩) i n)).run Tryz.prog w.drew = .ok (cs.take (i * 5)).toArray w.drew:=by
  rw [hzs]
  exact run_firstCells_some w.drew 5 i ⟨g,0,none⟩ i n (cs.take (i * 5)) hAl (fun j v hj=>by
   rw [Addr.add_lit,Nat.zero_add]
   rw [List.getElem?_take] at hj
   split at hj
   ·exact Row.cell_take (W:=w.drew) hg hx hj
   ·cases hj)
 obtain ⟨G,hG⟩:∃ G,G=grownCap w (n+1) n 32 := ⟨_,rfl⟩
 have hGn:n+1≤G:=by rw [hG];exact grownCap_ge w _ _ _
 have hGm:G≤maxLen:=by rw [hG];exact grownCap_le_maxLen w (n+1) n 32 (by unfold maxLen;omega)
 obtain ⟨ROW,hROW⟩:∃ ROW:Array Value,ROW=(cs.take (i * 5)).toArray ++ Builtin.zeroCells (Value.agg #[.int .i64 0,.string ⟨#[]⟩,.string ⟨#[]⟩,.string ⟨#[]⟩,.string ⟨#[]⟩]).cells (n+1 - i) ++ Builtin.zeroCells (Value.agg #[.int .i64 0,.string ⟨#[]⟩,.string ⟨#[]⟩,.string ⟨#[]⟩,.string ⟨#[]⟩]).cells (G - (n+1)):=⟨_,rfl⟩
 have hrz:∀ ty,(Builtin.append_ #[24, 3] ty #[.slice (some ⟨g,0,none⟩) i n,.int .i64 ((n:Int)+1 - (i:Int))]).run Tryz.prog w = .ok (.slice (some ⟨w.heap.size,0,none⟩) (n+1) G) (w.drew.alloc (.cells ROW 32)):=fun ty=>by
  have h:=Lib.run_append_grow_zeros w 24 3 ty 32 i0 _ .i64 .i64 Tryz.underlying24 Tryz.underlying3 hi0 hz0 (some ⟨g,0,none⟩) i n (cs.take (i * 5)) hold (n+1 - i) (by omega) (by omega) (by omega) (by omega) (by rw [hzb];omega) (by rw [hzb,hik];exact growslice_fits (by omega) (by omega))
  rw [hik,← hG,← hROW] at h
  rw [show (n:Int)+1 - (i:Int)=((n+1 - i:Nat):Int) by omega]
  exact h
 have hRs:ROW.size=G * 5:=by
  rw [hROW]
  simp [Builtin.zeroCells,Value.cells,hAl]
  omega
 obtain ⟨R1,hR1⟩:∃ R1:List Value,R1=ROW.toList.take (i * 5) ++ vs ++ ROW.toList.drop (i * 5+vs.length):=⟨_,rfl⟩
 obtain ⟨R2,hR2⟩:∃ R2:List Value,R2=R1.take ((i+1) * 5) ++ cs.drop (i * 5) ++ R1.drop ((i+1) * 5+(cs.drop (i * 5)).length):=⟨_,rfl⟩
 have hRt:ROW.toList.take (i * 5)=cs.take (i * 5):=by
  rw [hROW]
  simp only [Array.toList_append,List.append_assoc,List.toList_toArray]
  rw [List.take_append_of_le_length (by omega),List.take_of_length_le (by omega)]
 have hl1:R1.length=G * 5:=by
  rw [hR1]
  simp only [List.length_append,List.length_take,List.length_drop,Array.length_toList,hRs,hvl]
  omega
 have hl2:R2.length=G * 5:=by
  rw [hR2]
  simp only [List.length_append,List.length_take,List.length_drop,hl1,hcl]
  omega
 have hfin:R2.take ((n+1) * 5)=cs.take (i * 5) ++ vs ++ cs.drop (i * 5):=by
  have:=grow_abs (cs.take (i * 5)) vs (cs.drop (i * 5)) (ROW.toList.drop (i * 5+vs.length)) (R1.drop ((i+1) * 5+(cs.drop (i * 5)).length))
  rw [hAl,hBl,hvl] at this
  rw [← this,hR2]
  congr 1
  ·omega
  ·rw [hR1,hRt,hvl,hBl,show (i+1) * 5=i * 5+5 by omega]
 have hne1:vb≠w.heap.size:=Nat.ne_of_lt hv.1
 have hne2:g≠w.heap.size:=Nat.ne_of_lt hg.1
 obtain ⟨W1,hW1⟩:∃ W1,W1=(w.alloc (.cells ROW 32)).drew:=⟨_,rfl⟩
 have hN1:W1.heap[w.heap.size]? = some (.cells ROW 32 (0,0)):=by rw [hW1];exact heap_alloc_new _ _
 have hB1:Below w.heap.size w W1:=by rw [hW1];exact ((Below.refl _ w).alloc (Nat.le_refl _) _).drew
 have hg1:Row W1 g (.cells cur 32):=Row.below hg hB1
 have hv1:Row W1 vb (.cells vs.toArray 32):=Row.below hv hB1
 obtain ⟨W2,hW2⟩:∃ W2,W2=W1.setRow w.heap.size R1.toArray:=⟨_,rfl⟩
 have hN2:W2.heap[w.heap.size]? = some (.cells R1.toArray 32 (0,0)):=by rw [hW2];exact setRow_heap _ _ _ _ _ _ hN1
 have hg2:Row W2 g (.cells cur 32):=⟨by rw [hW2];simpa using hg1.1,by rw [hW2,setRow_other _ _ _ _ hne2];exact hg1.2⟩
 have hcpA:∀ ty dc,(Builtin.copy_ #[24, 24] ty #[.slice (some ⟨w.heap.size,i * 5,none⟩) (n+1 - i) dc,.slice (some ⟨vb,0,none⟩) 1 1]).run Tryz.prog W1 = .ok (goInt ((1:Nat):Int)) W2:=fun ty dc=>by
  rw [run_copy_rowK W1 _ _ ty 32 5 1 w.heap.size (i * 5) (n+1 - i) dc ⟨vb,0,none⟩ 1 1 ROW 32 vs Tryz.underlying24 hps hN1 (by simp only [Nat.min_def];split <;> omega) (by omega) (news_at hv1) (by rw [hRs];omega) h1v,← hR1,← hW2]
 have hcpB:∀ ty dc sc,(Builtin.copy_ #[24, 24] ty #[.slice (some ⟨w.heap.size,(i+1) * 5,none⟩) (n - i) dc,.slice (some ⟨g,i * 5,none⟩) (n - i) sc]).run Tryz.prog W2.drew = .ok (goInt ((n - i:Nat):Int)) (W2.drew.setRow w.heap.size R2.toArray):=fun ty dc sc=>by
  rw [run_copy_rowK W2.drew _ _ ty 32 5 (n - i) w.heap.size ((i+1) * 5) (n - i) dc ⟨g,i * 5,none⟩ (n - i) sc R1.toArray 32 (cs.drop (i * 5)) Tryz.underlying24 hps hN2 (by simp) hBl
   (fun j v hj=>by rw [Addr.add_lit];exact Row.cell_take (W:=W2.drew) hg2 hx (by rwa [List.getElem?_drop] at hj)) (by rw [List.size_toArray,hl1,hBl];omega) (fun v hv=>h1c v (List.mem_of_mem_drop hv)),List.toList_toArray,← hR2]
 have hend:(W2.drew.setRow w.heap.size R2.toArray).ownsRow w.heap.size 32 5 (.slice (some ⟨w.heap.size,0,none⟩) (n+1) G) (n+1) (cs.take (i * 5) ++ vs ++ cs.drop (i * 5))∧Below w.heap.size w (W2.drew.setRow w.heap.size R2.toArray):=by
  refine ⟨⟨by rw [← hfin,List.length_take,hl2];omega,.inr ⟨w.heap.size,G,R2.toArray,rfl,Nat.le_refl _,setRow_heap W2.drew _ _ _ _ _ hN2,hGn,hGm,by simp [hl2],hfin⟩⟩,?_⟩
  refine below_setRow ?_ (Nat.le_refl _) _
  rw [hW2]
  exact (below_setRow hB1 (Nat.le_refl _) _).drew
 have HE:=Lib.hid hend
 have hGi:¬ (G=i):=by omega
 have hGim:¬ (G=i+1):=by omega
 have hci:¬ (n=i):=by omega
 have hz2:¬ ((i:Int)=(n:Int)):=by omega
 have hz3:(n:Int)<(n:Int)+1:=by omega
 have hw1:IntKind.i64.wrap ((i:Int)+1)=(i:Int)+1:=by rw [IntKind.wrap_i64];omega
 have hw2:IntKind.i64.wrap ((n:Int)+1)=(n:Int)+1:=by rw [IntKind.wrap_i64];omega
 have hw3:IntKind.i64.wrap ((n:Int)+1 - (i:Int))=(n:Int)+1 - (i:Int):=by rw [IntKind.wrap_i64];omega
 have htn:((i:Int)+1).toNat=i+1:=by omega
 have hb1:(0:Int)≤(i:Int)+1:=by omega
 have hin:i≤n:=by omega
 have hin2:i≤n+1:=by omega
 have hb3:(i:Int)≤(n:Int)+1:=by omega
 have mixed:Tryz.prog.follows .mixedOrders=true:=by kernel_rfl
 have hW1':=Lib.hid hW1
 have hrz2:∀ ty,(Builtin.append_ #[24, 3] ty #[.slice (some ⟨g,0,none⟩) i n,.int .i64 ((n:Int)+1 - (i:Int))]).run Tryz.prog w = .ok (.slice (some ⟨w.heap.size,0,none⟩) (n+1) G) W1:=fun ty=>by rw [hrz ty,hW1];rfl
 clear hrz hROW hR1 hR2 hl1 hl2 hfin hRt hend hcl hx hAl hBl hold hG hGm hRs hg hv hg1 hv1 hg2 hN1 hN2 hB1 h1c h1v hW1 hW2 hne1 hne2 hps hi0 hz0 hzs hzb
 go_enter Tryz.func66, Tryz.ntmps66
 go_wp2_with (first
  | (at_builtin;refine Lib.wpList_append_run _ rfl _ _ _ _ rfl _ _ rfl rfl _ _ (hrz2 _) ?_)
  | (at_builtin;refine wpList_copy_runI _ rfl _ _ 24 24 rfl _ _ rfl rfl (hcpA _ _) ?_))
 go_region_law_o (refine step_copy_runI rfl _ _ 24 24 rfl _ _ (by simp [Act.eval,Act.put]) (by simp [Act.eval,Act.put]) (hcpB _ _ _) ?_)
 go_wp2
 go_ret
 exact ⟨_,rfl,HE.out⟩
theorem setRow_grown {w w':World} {g:Nat} {row:Option Nat} (h:w.grownBy w' row) (hr:row=some g) (R:Array Value):w.grownBy (w'.setRow g R) row :=
 ⟨h.os,h.tape,h.output,by simpa using h.size,fun k hk hne=>by rw [setRow_other _ _ _ _ (fun e=>hne (by rw [hr,e]))];exact h.block k hk hne⟩
/-- slices.Insert of one point. -/
theorem dinsert (base i n vb:Nat) (p:Option Addr) (c:Nat) (cs vs:List Value) (hn:n≤1000) (hi:i≤n) (w:World) (hb:base≤w.heap.size) (ho:w.ownsRow base 32 5 (.slice p n c) n cs)
  (hv:Row w vb (.cells vs.toArray 32)) (hvl:vs.length=5) (hne:(Value.slice p n c).ownBlock≠some vb) (h1c:∀ v ∈ cs,v.oneCell'=true) (h1v:∀ v ∈ vs,v.oneCell'=true) :
  Calls Tryz.prog 66 #[.slice p n c,.int .i64 i,.slice (some ⟨vb,0,none⟩) 1 1] w fun e w' =>
   ∃ p' c',e = .returned (.slice p' (n+1) c')∧w'.ownsRow base 32 5 (.slice p' (n+1) c') (n+1) (cs.take (i * 5) ++ vs ++ cs.drop (i * 5))∧w.grownBy w' (Value.slice p n c).ownBlock:=by
 have key:∀ (R:Ending→World→Prop),(Calls Tryz.prog 66 #[.slice p n c,.int .i64 i,.slice (some ⟨vb,0,none⟩) 1 1] w fun e w'=>∃ s,e = .returned s∧w'.ownsRow base 32 5 s (n+1) (cs.take (i * 5) ++ vs ++ cs.drop (i * 5))∧w.grownBy w' (Value.slice p n c).ownBlock) →
   Calls Tryz.prog 66 #[.slice p n c,.int .i64 i,.slice (some ⟨vb,0,none⟩) 1 1] w fun e w'=>∃ p' c',e = .returned (.slice p' (n+1) c')∧w'.ownsRow base 32 5 (.slice p' (n+1) c') (n+1) (cs.take (i * 5) ++ vs ++ cs.drop (i * 5))∧w.grownBy w' (Value.slice p n c).ownBlock:=fun _ h =>
  h.mono fun e w' ⟨s,h1,h2,h3⟩=>by
   obtain ⟨A,k,rfl⟩:=own_slice h2
   exact ⟨A,k,h1,h2,h3⟩
 refine key (fun _ _=>True) ?_
 have hcl:=ho.1
 obtain ⟨_,⟨he,rfl⟩ | ⟨g,cap,cur,he,hg0,hgg,hnc,hcm,hcs,hx⟩⟩:=ho
 ·cases he
  obtain rfl:i=0:=by omega
  obtain rfl:cs=[]:=List.length_eq_zero_iff.1 (by omega)
  refine (dinsert_nil base vb [] vs w hb ⟨rfl,.inl ⟨rfl,rfl⟩⟩ hv hvl h1v).mono ?_
  rintro e w' ⟨s,h1,h2,h3⟩
  exact ⟨s,h1,by simpa using h2,h3⟩
 ·cases he
  have hg:Row w g (.cells cur 32):=⟨(Array.getElem?_eq_some_iff.1 hgg).1,hgg⟩
  have hvg:vb≠g:=fun e=>hne (by simp [Value.ownBlock,e])
  have ho:w.ownsRow base 32 5 (.slice (some ⟨g,0,none⟩) n c) n cs:=⟨hcl,.inr ⟨g,c,cur,rfl,hg0,hgg,hnc,hcm,hcs,hx⟩⟩
  rcases Nat.lt_or_ge i n with hin | hin
  ·rcases Nat.lt_or_ge n c with hroom | hroom
   ·obtain ⟨R1,hR1⟩:∃ R1:List Value,R1=cur.toList.take (i * 5+5) ++ cs.drop (i * 5) ++ cur.toList.drop (i * 5+5+(cs.drop (i * 5)).length):=⟨_,rfl⟩
    obtain ⟨R2,hR2⟩:∃ R2:List Value,R2=R1.take (i * 5) ++ vs ++ R1.drop (i * 5+vs.length):=⟨_,rfl⟩
    refine (dinsert_shift g n c i vb cur cs vs w hin hroom (by unfold maxLen at hcm;omega) hg hcs hx hv hvl hvg h1c h1v R1 R2 hR1 hR2).mono ?_
    rintro e w' ⟨rfl,rfl⟩
    refine ⟨_,rfl,⟨by simp only [List.length_append,List.length_take,List.length_drop,hcl,hvl];omega,.inr ⟨g,c,R2.toArray,rfl,hg0,?_,by omega,hcm,?_,?_⟩⟩,?_⟩
    ·exact setRow_heap _ _ _ _ _ _ (setRow_heap w.drew g cur _ _ _ hgg)
    ·obtain ⟨l1,l2⟩:=ins_size (vs:=vs) (b:=n * 5) hx (by simp;omega) (show i * 5≤n * 5 by omega) hvl rfl
     rw [← hR1] at l1 l2
     rw [← hR2] at l2
     simp [l2,hcs]
    ·have:=ins_list (vs:=vs) (b:=n * 5) hx (by simp;omega) (show i * 5≤n * 5 by omega) hvl (cur.toList.drop (i * 5+5+(cs.drop (i * 5)).length))
     rw [← hR1,← hR2] at this
     rw [show (n+1) * 5=n * 5+5 by omega]
     simpa using this
    ·exact (setRow_grown (setRow_grown (show w.grownBy w.drew (some g) from ⟨rfl,rfl,rfl,Nat.le_refl _,fun _ _ _=>rfl⟩) rfl _) rfl _:w.grownBy _ (some g))
   ·obtain rfl:n=c:=by omega
    refine (dinsert_grow g n i vb cur cs vs w hin hn hg hx hcl hv hvl h1c h1v).mono ?_
    rintro e w' ⟨s,h1,h2,h3⟩
    exact ⟨s,h1,own_at h2 hb,⟨h3.os,h3.tape,h3.output,h3.size,fun k hk _=>h3.block k hk⟩⟩
  ·obtain rfl:i=n:=by omega
   have e1:cs.take (i * 5)=cs:=List.take_of_length_le (by omega)
   have e2:cs.drop (i * 5)=[]:=List.drop_eq_nil_of_le (by omega)
   rw [e1,e2,List.append_nil]
   rcases Nat.lt_or_ge i c with hroom | hroom
   ·exact dinsert_room g base i c vb cs vs hn hroom w hb ho hv hvl h1v
   ·obtain rfl:i=c:=by omega
    exact dinsert_full g base i vb cs vs hn w hb ho hv hvl h1v
end Go.Proofs.YtnokpldomlmamaaGreatDoor
namespace Go.Proofs.YtnokpldomlmamaaGreatDoor
open Go Go.RowKit Go.Lib Go.Shelf
theorem upTo_find {l:List Pt} {T:Int} {k:Nat} (hk:k≤l.length) (h1:∀ t,t<k→decide (T<((ptD l t).t:Int))=false) (h2:∀ t,k≤t→t<l.length→decide (T<((ptD l t).t:Int))=true):k=upTo l T:=by
 have e:upTo l T=upTo (l.take k) T+upTo (l.drop k) T:=by
  unfold upTo
  rw [← List.countP_append,List.take_append_drop]
 have a1:upTo (l.take k) T=k:=by
  have:(l.take k).length=k:=by rw [List.length_take];omega
  unfold upTo
  rw [show List.countP _ (l.take k)=(l.take k).length from List.countP_eq_length.2 (fun q hq=>by
   obtain ⟨i,hi,e⟩:=List.getElem_of_mem hq
   have hik:i<k:=by omega
   have:=h1 i hik
   rw [List.getElem_take] at e
   have e2:ptD l i=q:=by unfold ptD;rw [List.getD_eq_getElem?_getD,List.getElem?_eq_getElem (by omega)];exact e
   rw [e2] at this
   simp at this ⊢;omega),this]
 have a2:upTo (l.drop k) T=0:=by
  unfold upTo
  rw [List.countP_eq_zero]
  intro q hq
  obtain ⟨i,hi,e⟩:=List.getElem_of_mem hq
  rw [List.length_drop] at hi
  have:=h2 (k+i) (by omega) (by omega)
  rw [List.getElem_drop] at e
  have e2:ptD l (k+i)=q:=by unfold ptD;rw [List.getD_eq_getElem?_getD,List.getElem?_eq_getElem (by omega)];exact e
  rw [e2] at this
  simp at this ⊢;omega
 rw [e,a1,a2];rfl
theorem sorted_mono {l:List Pt} (hs:l.Pairwise fun a b=>a.t≤b.t) {a b:Nat} (hab:a≤b) (hb:b<l.length):(ptD l a).t≤(ptD l b).t:=by
 rcases Nat.eq_or_lt_of_le hab with rfl | h
 ·exact Nat.le_refl _
 ·have:=List.pairwise_iff_getElem.1 hs a b (by omega) hb h
  have e1:ptD l a=l[a]:=by unfold ptD;rw [List.getD_eq_getElem?_getD,List.getElem?_eq_getElem (by omega)];rfl
  have e2:ptD l b=l[b]:=by unfold ptD;rw [List.getD_eq_getElem?_getD,List.getElem?_eq_getElem hb];rfl
  rw [e1,e2];exact this
theorem dknown1 {r:Rat} {l:List Pt} {p:Option Addr} {n c i:Nat} {T:Int} (hn:l.length=n) (hlt:i<l.length) (bh bt:Nat) (w:World) (rh:Row w bh (.cells #[.string (S r.num),.string (S (r.den:Int)),.slice p n c] 26)) (rt:Row w bt (.cells #[.int .i64 T] 3)) (hp:PAt w p l):Calls Tryz.prog 63 #[.int .i64 (i:Int),.pointer (some ⟨bh,0,none⟩),.pointer (some ⟨bt,0,none⟩)] w (BoolOk (decide (T<((ptD l i).t:Int))) w):=by
 have hB:Below w.heap.size w w:=Below.refl _ _
 obtain ⟨g,cur,rfl,rg,g0,g1,g2,g3,g4⟩:=PAt.at hp hlt
 clear g1 g2 g3 g4 hp
 generalize (ptD l i).t=q at *
 have hi:(i:Int)<(n:Int):=by omega
 clear hlt hn
 have sh:=RF3 rh
 have st:=RF1 rt
 have Fg:∀ X,Row X g (.cells cur 32)→(g<X.heap.size∧X.cell? ⟨g,i * 5,none⟩=some (.int .i64 (q:Int))):=fun X h=>⟨h.1,Row.cell_at h _ g0⟩
 have sg:=Fg _ rg
 go_enter Tryz.func63, Tryz.ntmps63
 go_wp2_with fail
 refine wp_region_items 8 [.val (.pointer (some ⟨bh,2,none⟩)),.val (.slice (some ⟨g,0,none⟩) n c),.val (.int .i64 (i:Int)),.val (.pointer (some ⟨g,i * 5,none⟩)),.val (.pointer (some ⟨g,i * 5,none⟩)),.val (.int .i64 (q:Int)),.val (.int .i64 T),.val (.bool (decide (T<(q:Int))))] (by kernel_rfl) (by kernel_rfl) trivial (allItems.cons qi0 (allItems.cons (qi1 fun X h=>RF3 (Row.below rh h)) (allItems.cons qi0 (allItems.cons (qif hi) (allItems.cons qi0 (allItems.cons (qi1 fun X h=>Fg X (Row.below rg h)) (allItems.cons (qi1 fun X h=>RF1 (Row.below rt h)) (allItems.cons (qif hi) trivial)))))))) ?_
 rintro W h1
 clear sh
 clear st
 clear sg
 replace hB:=hB.trans (h1.mono hB.size)
 replace rh:=Row.below rh h1
 replace rt:=Row.below rt h1
 replace rg:=Row.below rg h1
 clear h1
 have sh:=RF3 rh
 have st:=RF1 rt
 have sg:=Fg _ rg
 simp only [setItems,List.setIfInBounds_toArray,List.set_cons_succ,List.set_cons_zero,List.take_succ_cons,List.take_zero,List.drop_succ_cons,List.drop_zero]
 go_wp2
 go_ret
 exact ⟨rfl,hB⟩
theorem dknown1_find {r:Rat} {l:List Pt} {p:Option Addr} {n c:Nat} {T:Int} (hn:l.length=n) (hn1:n≤1000) (hs:l.Pairwise fun a b=>a.t≤b.t) (bh bt:Nat) (w:World) (rh:Row w bh (.cells #[.string (S r.num),.string (S (r.den:Int)),.slice p n c] 26)) (rt:Row w bt (.cells #[.int .i64 T] 3)) (hp:PAt w p l) :
  Calls Tryz.prog 59 #[.int .i64 (n:Int),.func (.func 63) #[] #[.pointer (some ⟨bh,0,none⟩),.pointer (some ⟨bt,0,none⟩)]] w fun e w'=>e = .returned (.int .i64 (upTo l T:Int))∧Below w.heap.size w w':=by
 have eg:∀ args w,(callFunc 63 args).run Tryz.prog w = .ok (.enter 63 args) w:=enters_of Tryz.func63 (by kernel_rfl) rfl
 have h:=search_any n 63 #[.pointer (some ⟨bh,0,none⟩),.pointer (some ⟨bt,0,none⟩)] (fun i=>decide (T<((ptD l i).t:Int))) w eg (by omega)
  (fun W i hi hB=>dknown1 hn (by omega) bh bt W (Row.below rh hB) (Row.below rt hB) (hp.below hB))
  (fun a b hab hb h=>by have:=sorted_mono hs hab (by omega);simp at h ⊢;omega)
 refine h.mono ?_
 rintro e w' ⟨⟨k,rfl,hk,h1,h2⟩,hB⟩
 refine ⟨?_,hB⟩
 rw [upTo_find (by omega) h1 (fun t a b=>h2 t a (by omega))]
theorem dadd1 {r:Rat} {l:List Pt} {p:Option Addr} {n c i:Nat} {a:Pt} (hn:l.length=n) (hlt:i<l.length) (bh bt:Nat) (w:World) (rh:Row w bh (.cells #[.string (S r.num),.string (S (r.den:Int)),.slice p n c] 26)) (rt:Row w bt (.cells #[.int .i64 (a.t:Int),.string (S a.iv.lo.num),.string (S (a.iv.lo.den:Int)),.string (S a.iv.hi.num),.string (S (a.iv.hi.den:Int))] 32)) (hp:PAt w p l):Calls Tryz.prog 65 #[.int .i64 (i:Int),.pointer (some ⟨bh,0,none⟩),.pointer (some ⟨bt,0,none⟩)] w (BoolOk (decide ((a.t:Int)<((ptD l i).t:Int))) w):=by
 have hB:Below w.heap.size w w:=Below.refl _ _
 obtain ⟨g,cur,rfl,rg,g0,g1,g2,g3,g4⟩:=PAt.at hp hlt
 clear g1 g2 g3 g4 hp
 generalize (ptD l i).t=q at *
 have hi:(i:Int)<(n:Int):=by omega
 clear hlt hn
 have sh:=RF3 rh
 have st:=RF5 rt
 have Fg:∀ X,Row X g (.cells cur 32)→(g<X.heap.size∧X.cell? ⟨g,i * 5,none⟩=some (.int .i64 (q:Int))):=fun X h=>⟨h.1,Row.cell_at h _ g0⟩
 have sg:=Fg _ rg
 go_enter Tryz.func65, Tryz.ntmps65
 go_wp2_with fail
 refine wp_region_items 9 [.val (.pointer (some ⟨bh,2,none⟩)),.val (.slice (some ⟨g,0,none⟩) n c),.val (.int .i64 (i:Int)),.val (.pointer (some ⟨g,i * 5,none⟩)),.val (.pointer (some ⟨g,i * 5,none⟩)),.val (.int .i64 (q:Int)),.val (.pointer (some ⟨bt,0,none⟩)),.val (.int .i64 (a.t:Int)),.val (.bool (decide ((a.t:Int)<(q:Int))))] (by kernel_rfl) (by kernel_rfl) trivial (allItems.cons qi0 (allItems.cons (qi1 fun X h=>RF3 (Row.below rh h)) (allItems.cons qi0 (allItems.cons (qif hi) (allItems.cons qi0 (allItems.cons (qi1 fun X h=>Fg X (Row.below rg h)) (allItems.cons qi0 (allItems.cons (qi1 fun X h=>RF5 (Row.below rt h)) (allItems.cons (qif hi) trivial))))))))) ?_
 rintro W h1
 clear sh
 clear st
 clear sg
 replace hB:=hB.trans (h1.mono hB.size)
 replace rh:=Row.below rh h1
 replace rt:=Row.below rt h1
 replace rg:=Row.below rg h1
 clear h1
 have sh:=RF3 rh
 have st:=RF5 rt
 have sg:=Fg _ rg
 simp only [setItems,List.setIfInBounds_toArray,List.set_cons_succ,List.set_cons_zero,List.take_succ_cons,List.take_zero,List.drop_succ_cons,List.drop_zero]
 go_wp2
 go_ret
 exact ⟨rfl,hB⟩
theorem dadd1_find {r:Rat} {l:List Pt} {p:Option Addr} {n c:Nat} {a:Pt} (hn:l.length=n) (hn1:n≤1000) (hs:l.Pairwise fun a b=>a.t≤b.t) (bh bt:Nat) (w:World) (rh:Row w bh (.cells #[.string (S r.num),.string (S (r.den:Int)),.slice p n c] 26)) (rt:Row w bt (.cells #[.int .i64 (a.t:Int),.string (S a.iv.lo.num),.string (S (a.iv.lo.den:Int)),.string (S a.iv.hi.num),.string (S (a.iv.hi.den:Int))] 32)) (hp:PAt w p l) :
  Calls Tryz.prog 59 #[.int .i64 (n:Int),.func (.func 65) #[] #[.pointer (some ⟨bh,0,none⟩),.pointer (some ⟨bt,0,none⟩)]] w fun e w'=>e = .returned (.int .i64 (upTo l (a.t:Int):Int))∧Below w.heap.size w w':=by
 have eg:∀ args w,(callFunc 65 args).run Tryz.prog w = .ok (.enter 65 args) w:=enters_of Tryz.func65 (by kernel_rfl) rfl
 have h:=search_any n 65 #[.pointer (some ⟨bh,0,none⟩),.pointer (some ⟨bt,0,none⟩)] (fun i=>decide ((a.t:Int)<((ptD l i).t:Int))) w eg (by omega)
  (fun W i hi hB=>dadd1 hn (by omega) bh bt W (Row.below rh hB) (Row.below rt hB) (hp.below hB))
  (fun a b hab hb h=>by have:=sorted_mono hs hab (by omega);simp at h ⊢;omega)
 refine h.mono ?_
 rintro e w' ⟨⟨k,rfl,hk,h1,h2⟩,hB⟩
 refine ⟨?_,hB⟩
 rw [upTo_find (by omega) h1 (fun t a b=>h2 t a (by omega))]
theorem dclone2 {l:List Pt} (p:Option Addr) (n c:Nat) (hn:l.length=n) (hn1:n≤1000) (w:World) (hp:PAt w p l) :
  Calls Tryz.prog 64 #[.slice p n c] w fun e w'=>∃ p' c',(w'.ownsRow w.heap.size 32 5 (.slice p' n c') n (pCells l))∧e = .returned (.slice p' n c')∧Below w.heap.size w w' :=
 (dclone p n c hn hn1 w hp).mono fun e w' ⟨v,h1,h2,h3⟩=>by
  obtain ⟨p',c',rfl⟩:∃ p' c',v = .slice p' n c':=by
   rcases h2.2 with ⟨rfl,rfl⟩ | ⟨g,cap,cur,rfl,_⟩
   ·exact ⟨_,_,rfl⟩
   ·exact ⟨_,_,rfl⟩
  exact ⟨p',c',h2,h1,h3⟩
def KnownOk (r:Rat) (l:List Pt) (k:Nat) (w:World) (e:Ending) (w':World):Prop:=∃ p c,(w'.ownsRow w.heap.size 32 5 (.slice p k c) k (pCells l))∧e = .returned (.agg #[.string (S r.num),.string (S (r.den:Int)),.slice p k c])∧Below w.heap.size w w'
theorem dknown {r:Rat} {l:List Pt} (T:Int) (ho:Hist.Ok ⟨r,l⟩) (p:Option Addr) (n c:Nat) (hn:l.length=n) (hnc:n≤c) (w:World) (hp:PAt w p l) (he:Env w):Calls Tryz.prog 16 #[HV ⟨r,l⟩ (.slice p n c),.int .i64 T] w (KnownOk r (l.take (upTo l T)) (upTo l T) w):=by
 have hB:Below w.heap.size w w:=Below.refl _ _
 have MV:=fun W (hp:PAt W p l) (H:Env W)=>dvalid ho p n c hn W hp H
 have hfew:=ho.few
 have hs:=ho.sorted
 have HP:=Lib.hid hp
 have hk:=upTo_le l T
 rw [hn] at hk hfew
 have MK:=fun W bh bt rh rt (hp:PAt W p l)=>dknown1_find (r:=r) (c:=c) (T:=T) hn (by omega) hs bh bt W rh rt hp
 have MC:=fun W (hp:PAt W p l)=>dclone2 p (upTo l T) c (l:=l.take (upTo l T)) (by rw [List.length_take,hn];omega) (by omega) W (hp.take _)
 unfold BoolOk HV at *
 unfold KnownOk
 simp only at MV ⊢
 generalize upTo l T=k at *
 have hki:(k:Int)≤(n:Int):=by omega
 have hk0:(0:Int)≤(k:Int):=by omega
 have hkn:k≤n:=hk
 have hkc:(k:Int)≤(c:Int):=by omega
 have hkc2:k≤c:=by omega
 clear ho hp hs hn hfew
 go_enter Tryz.func16, Tryz.ntmps16
 go_wp2_with fail
 have d0_o:w.heap.size≤w.heap.size+1+1:=by have:=hB.size;omega
 have sB:=hB.size
 refine world_cut (fun X=>Below w.heap.size w X∧Row X w.heap.size (.cells #[.string (S r.num),.string (S (r.den:Int)),.slice p n c] 26)∧Row X (w.heap.size+1) (.cells #[.int .i64 T] 3)∧Row X (w.heap.size+1+1) (.cells #[.string ⟨#[]⟩,.string ⟨#[]⟩,.slice none 0 0] 26)) ⟨BW,RWh,RWh,RWh⟩ ?_
 clear hB sB
 rintro V1 ⟨hB,rh,rt,ro⟩
 have sh:=RF3 rh
 have st:=RF1 rt
 have so:=RFz3 ro
 refine (MV _ (PAt.below HP.out hB) (he.below hB)).mono ?_
 rintro e W2 ⟨rfl,h1⟩
 clear sh
 clear st
 clear so
 replace hB:=hB.trans (h1.mono hB.size)
 replace rh:=Row.below rh h1
 replace rt:=Row.below rt h1
 replace ro:=Row.below ro h1
 clear h1
 have sh:=RF3 rh
 have st:=RF1 rt
 have so:=RFz3 ro
 go_wp2_with fail
 refine (MK _ _ _ rh rt (PAt.below HP.out hB)).mono ?_
 rintro e W3 ⟨rfl,h1⟩
 clear sh
 clear st
 clear so
 replace hB:=hB.trans (h1.mono hB.size)
 replace rh:=Row.below rh h1
 replace rt:=Row.below rt h1
 replace ro:=Row.below ro h1
 clear h1
 have sh:=RF3 rh
 have st:=RF1 rt
 have so:=RFz3 ro
 have LTo:=ro.1
 have LB:=hB.size
 go_wp2_with fail
 clear rt
 clear st
 skip
 clear sh
 clear so
 have KK4:∀ X,Row X (w.heap.size) (.cells #[.string (S r.num),.string (S (r.den:Int)),.slice p n c] 26)→(X.cell? ⟨w.heap.size,0,none⟩=some (.string (S r.num))∧X.cell? ⟨w.heap.size,1,none⟩=some (.string (S (r.den:Int)))∧X.cell? ⟨w.heap.size,2,none⟩=some (.slice p n c)):=fun X hh=>⟨Row.cell_at hh 0 rfl,Row.cell_at hh 1 rfl,Row.cell_at hh 2 rfl⟩
 go_region_held3 (fun X=>X.cell? ⟨w.heap.size,0,none⟩=some (.string (S r.num))∧X.cell? ⟨w.heap.size,1,none⟩=some (.string (S (r.den:Int)))∧X.cell? ⟨w.heap.size,2,none⟩=some (.slice p n c)) (first | exact KK4 _ RWh) (first
   | (go_at_call 64; with_reducible refine (MC _ (by first | exact PAt.below HP.out hB | exact PAt.below HP.out hB.drew | exact PAt.below HP.out (below_drewN hB _))).mono ?_;rintro e W ⟨p',c',hown,rfl,h1⟩;(try replace h1:=below_of_drew h1);replace hB:=hB.trans (h1.mono hB.size);replace rh:=Row.below rh h1;replace ro:=Row.below ro h1;have so:=RFz3 ro))
 clear KK4
 clear so
 have sh:=RF3 rh
 have so:=RFz3 ro
 go_wp2_with fail
 have sB:=hB.size
 have LTo2:w.heap.size+1+1<W3.drew.heap.size:=LTo
 refine post_cut (fun X=>Below w.heap.size w X∧Row X (w.heap.size+1+1) (.cells #[.string (S r.num),.string (S (r.den:Int)),.slice p' k c'] 26)∧X.ownsRow W3.drew.heap.size 32 5 (.slice p' k c') k (pCells (l.take k))) ⟨BW,RWh,OW⟩ ?_
 clear hB ro hown
 rintro V ⟨hB,ro,hown⟩
 have e0:=Row.cell_at ro 0 rfl
 have e1:=Row.cell_at ro 1 rfl
 have e2:=Row.cell_at ro 2 rfl
 refine bodyPost_ret (v := .agg #[.string (S r.num),.string (S (r.den:Int)),.slice p' k c']) ?res rfl ⟨p',c',own_at hown LB,rfl,hB⟩
 case res=>simp [results,Tryz.results16, go_sem,e0,e1,e2]
end Go.Proofs.YtnokpldomlmamaaGreatDoor
namespace Go.Proofs.YtnokpldomlmamaaGreatDoor
open Go Go.RowKit Go.Lib Go.Shelf
def isNew (o:Oper):Bool:=(match o.op with | .alloc _=>true | _=>false) && o.guard.isNone
theorem new_run {P:Program} {ρ:Operand→Value} {o:Oper} {W W':World} {n:Next} (h:isNew o=true) (hr:(execOp ρ o).run P W = .ok n W'):n = .value (.pointer (some ⟨W.heap.size,0,none⟩))∧W.heap.size<W'.heap.size:=by
 unfold isNew at h
 rw [Bool.and_eq_true] at h
 have h1:=h.1
 cases ho:o.op with
 | alloc e =>
  simp [execOp,ho,go_sem] at hr
  cases hz:Sem.run P (zeroValue e) W with
  | halt x W1=>rw [hz] at hr;cases hr
  | ok v W1 =>
   rw [hz] at hr
   simp only [Result.andThen,Result.ok.injEq] at hr
   have hw:W1=W:=by
    unfold zeroValue typeInfo at hz
    cases hi:P.info? e with
    | none=>simp [go_sem,hi] at hz
    | some i =>
     cases hzz:i.zero with
     | none=>simp [go_sem,hi,hzz] at hz
     | some z=>simp [go_sem,hi,hzz] at hz;exact hz.2.symm
   obtain ⟨rfl,rfl⟩:=hr
   subst hw
   exact ⟨rfl,by simp⟩
 | _=>simp [ho] at h1
/-- New blocks lie apart. -/
structure ApartAt (ops:Array Oper) (listed:Array Bool) (a:Act) (W:World):Prop where
 old:∀ i (o:Oper) t,ops[i]? = some o→isNew o=true→o.dst=some t→listed.getD i false=true→∃ b,a.eval (.tmp t) = .pointer (some ⟨b,0,none⟩)∧b<W.heap.size
 apart:∀ i j (o p:Oper) t s,ops[i]? = some o→ops[j]? = some p→isNew o=true→isNew p=true→o.dst=some t→p.dst=some s→i≠j→listed.getD i false=true→listed.getD j false=true→a.eval (.tmp t)≠a.eval (.tmp s)
theorem quietAt_step2 {P:Program} {ops:Array Oper} {Q:Exit→Act→World→Prop} {Sp:Nat→QSay} {tmps:Array Value} {ds:List Deferred} {w:World} {fl:List Oper}
  (hmono:∀ i v W W',Sp i v W→Below W.heap.size W W'→Sp i v W') (hfit:quietFit ops tmps.size=true)
  {i:Nat} {o:Oper} {listed:Array Bool} {a:Act} {W:World} (hob0:quietOb P ops fl Sp tmps w i o) (hfl:∀ j (p:Oper),ops[j]? = some p→listed.getD j false=true→p ∈ fl) (ho:ops[i]? = some o) (hJ:QuietAt ops Sp tmps ds w listed a W) (hA:ApartAt ops listed a W)
  (hni:listed.getD i false=false) (hdep:∀ e ∈ o.after,Region.binds .any e=true→listed.getD e.on false=true) :
  wpOp P ops Q i (fun a' W'=>QuietAt ops Sp tmps ds w (listed.setIfInBounds i true) a' W'∧ApartAt ops (listed.setIfInBounds i true) a' W') a W:=by
 have hob:=hob0 a.eval W hJ.below (fun _=>rfl) (fun _=>rfl) (fun _=>rfl)
  (fun t ht=>by rw [eval_tmp,Array.getD_eq_getD_getElem?,Array.getD_eq_getD_getElem?,hJ.same t (fun j p hp hl=>foreign_mem ht (hfl j p hp hl))])
  (depsSay_of _ fun e he hb p t hp ht=>hJ.done e.on p t hp ht (hdep e (by simpa using he) hb))
 have other:∀ v j (p:Oper) t,ops[j]? = some p→p.dst=some t→j≠i→(a.put o.dst v).eval (.tmp t)=a.eval (.tmp t):=by
  intro v j p t hp ht hji
  have h2:=quietFit.own hfit hp ho ht (Ne.symm hji)
  rw [eval_tmp,eval_tmp]
  unfold Act.put
  cases hd:o.dst with
  | none=>rfl
  | some d =>
   have:d≠t:=fun e=>h2 (by rw [hd,e])
   simp only
   rw [Array.getD_eq_getD_getElem?,Array.getElem?_setIfInBounds_ne this,← Array.getD_eq_getD_getElem?]
 have own:∀ v t,o.dst=some t→(a.put o.dst v).eval (.tmp t)=v:=by
  intro v t ht
  rw [eval_tmp]
  unfold Act.put
  rw [ht]
  simp only
  rw [Array.getD_eq_getD_getElem?,Array.getElem?_setIfInBounds_self,if_pos (by rw [hJ.size];exact quietFit.lt hfit ho ht)]
  rfl
 have fin:∀ v W',Sp i v W'→Below W.heap.size W W'→(isNew o=true→v = .pointer (some ⟨W.heap.size,0,none⟩)∧W.heap.size<W'.heap.size)→QuietAt ops Sp tmps ds w (listed.setIfInBounds i true) (a.put o.dst v) W'∧ApartAt ops (listed.setIfInBounds i true) (a.put o.dst v) W':=by
  intro v W' hs hB hnew
  refine ⟨⟨hJ.below.trans (hB.mono hJ.below.size),?_,?_,by rw [Array.size_setIfInBounds];exact hJ.lsize,?_,?_⟩,⟨?_,?_⟩⟩
  ·rw [← hJ.defers];unfold Act.put;split <;> rfl
  ·rw [← hJ.size];unfold Act.put;split <;> simp
  ·intro j p t hp ht hj
   by_cases hji:j=i
   ·subst hji
    rw [ho] at hp;cases hp
    rw [own v t ht]
    exact hs
   ·rw [other v j p t hp ht hji]
    exact hmono _ _ _ _ (hJ.done j p t hp ht ((listed_set hj).resolve_left hji)) hB
  ·intro t ht
   have hself:o.dst≠some t:=ht i o ho (listed_self (by rw [hJ.lsize];exact (Array.getElem?_eq_some_iff.1 ho).1))
   rw [← hJ.same t (fun j p hp hl=>ht j p hp (listed_keep hl))]
   unfold Act.put
   cases hd:o.dst with
   | none=>rfl
   | some d =>
    have:d≠t:=fun e=>hself (by rw [hd,e])
    simp only
    rw [Array.getElem?_setIfInBounds_ne this]
  ·intro j p t hp hn ht hj
   by_cases hji:j=i
   ·subst hji
    rw [ho] at hp;cases hp
    rw [own v t ht]
    exact ⟨_,(hnew hn).1,(hnew hn).2⟩
   ·rw [other v j p t hp ht hji]
    obtain ⟨b,e,hb⟩:=hA.old j p t hp hn ht ((listed_set hj).resolve_left hji)
    exact ⟨b,e,Nat.lt_of_lt_of_le hb hB.size⟩
  ·intro j k p q t s hp hq hnp hnq ht hs' hne hj hk
   by_cases hji:j=i
   ·subst hji
    rw [ho] at hp;cases hp
    rw [own v t ht,other v k q s hq hs' (Ne.symm hne),(hnew hnp).1]
    obtain ⟨b,e,hb⟩:=hA.old k q s hq hnq hs' ((listed_set hk).resolve_left (Ne.symm hne))
    rw [e]
    intro h
    simp at h
    try omega
   ·rw [other v j p t hp ht hji]
    by_cases hki:k=i
    ·subst hki
     rw [ho] at hq;cases hq
     rw [own v s hs',(hnew hnq).1]
     obtain ⟨b,e,hb⟩:=hA.old j p t hp hnp ht ((listed_set hj).resolve_left hji)
     rw [e]
     intro h
     simp at h
     try omega
    ·rw [other v k q s hq hs' hki]
     exact hA.apart j k p q t s hp hq hnp hnq ht hs' hne ((listed_set hj).resolve_left hji) ((listed_set hk).resolve_left hki)
 unfold wpOp
 simp only [ho]
 rw [yielded_by]
 split at hob
 ·rename_i hw
  rw [if_pos hw]
  left
  unfold Oper.wp Oper.upon
  cases hr:(execOp a.eval o).run P W with
  | ok n W' =>
   rw [hr] at hob
   cases n with
   | value v=>exact fin v W' hob.1 hob.2 (fun hn=>by have:=new_run hn hr;simpa using this)
   | skip=>exact fin _ W' hob.1 hob.2 (fun hn=>by have:=new_run hn hr;cases this.1)
   | enter f args =>
    refine Calls.mono hob.2 fun e W'' he => ?_
    obtain ⟨v,rfl,hs,hB⟩:=he
    exact fin v W'' hs (hob.1.trans (hB.mono hob.1.size)) (fun hn=>by have:=new_run hn hr;cases this.1)
   | _=>exact hob.elim
  | halt x W'=>rw [hr] at hob;exact hob.elim
 ·rename_i hw
  rw [if_neg hw]
  refine fin _ W hob (Below.refl _ _) (fun hn => ?_)
  exfalso
  apply hw
  unfold isNew at hn
  rw [Bool.and_eq_true] at hn
  have hg:o.guard=none:=by simpa using hn.2
  simp [Region.wanted,hg]
def newDsts:List Oper→List Nat
 | []=>[]
 | o :: l=>match o.dst with | some t=>if isNew o then t :: newDsts l else newDsts l | none=>newDsts l
def Apart (L:List Nat) (T:Array Value):Prop:=L.Pairwise fun t s=>T.getD t undef≠T.getD s undef
theorem mem_newDsts {t:Nat}:∀ {l:List Oper},t ∈ newDsts l→∃ (i:Nat) (o:Oper),l[i]? = some o∧isNew o=true∧o.dst=some t
 | [],h=>by cases h
 | o :: l,h=>by
  have back:t ∈ newDsts l→∃ (i:Nat) (p:Oper),(o :: l)[i]? = some p∧isNew p=true∧p.dst=some t:=fun h=>by
   obtain ⟨i,p,h1,h2⟩:=mem_newDsts h
   exact ⟨i+1,p,by simpa using h1,h2⟩
  unfold newDsts at h
  cases hd:o.dst with
  | none=>rw [hd] at h;exact back h
  | some d =>
   rw [hd] at h
   simp only at h
   split at h
   ·rename_i hn
    rcases List.mem_cons.1 h with rfl | h
    ·exact ⟨0,o,rfl,hn,hd⟩
    ·exact back h
   ·exact back h
theorem apart_of {T:Array Value}:∀ {l:List Oper},(∀ (i j:Nat) (o p:Oper) (t s:Nat),l[i]? = some o→l[j]? = some p→isNew o=true→isNew p=true→o.dst=some t→p.dst=some s→i≠j→T.getD t undef≠T.getD s undef)→Apart (newDsts l) T
 | [],_=>List.Pairwise.nil
 | o :: l,h=>by
  have ih:Apart (newDsts l) T:=apart_of fun i j p q t s hp hq h1 h2 h3 h4 hne=>h (i+1) (j+1) p q t s (by simpa using hp) (by simpa using hq) h1 h2 h3 h4 (by omega)
  unfold newDsts
  cases hd:o.dst with
  | none=>exact ih
  | some d =>
   simp only
   split
   ·rename_i hn
    refine List.Pairwise.cons (fun s hs => ?_) ih
    obtain ⟨j,p,hp,hnp,hps⟩:=mem_newDsts hs
    exact h 0 (j+1) o p d s rfl (by simpa using hp) hn hnp hd hps (by omega)
   ·exact ih
theorem apart3 {a b c:Nat} {T:Array Value} (h:Apart [a,b,c] T):T.getD a undef≠T.getD b undef∧T.getD a undef≠T.getD c undef∧T.getD b undef≠T.getD c undef:=by
 unfold Apart at h
 rw [List.pairwise_cons,List.pairwise_cons] at h
 exact ⟨h.1 b (by simp),h.1 c (by simp),h.2.1 c (by simp)⟩
end Go.Proofs.YtnokpldomlmamaaGreatDoor
