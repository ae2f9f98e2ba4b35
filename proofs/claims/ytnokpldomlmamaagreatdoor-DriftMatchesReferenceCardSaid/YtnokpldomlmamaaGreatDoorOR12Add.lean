/-
 The reference of drift: a valid history, with a further valid point.
-/
import Derived.Test.YtnokpldomlmamaaGreatDoorODAdd
import Derived.Test.YtnokpldomlmamaaGreatDoorOR12
set_option linter.unusedSimpArgs false
set_option linter.unusedVariables false
set_option maxRecDepth 100000
set_option maxHeartbeats 16000000
namespace Go.Proofs.YtnokpldomlmamaaGreatDoor
open Go Go.RowKit Go.Lib Go.Shelf
theorem reads_take {W:World} {g c:Nat} {cur:Array Value} {l:List Pt} (r:Row W g (.cells cur 32)) (hx:cur.toList.take (l.length * 5)=pCells l) {k:Nat} (hk:k≤l.length):Reads W (g+1) 5 (some ⟨g,0,none⟩) k (pCells (l.take k)) :=
 ⟨by rw [pCells_length,List.length_take,Nat.min_eq_left hk],fun _=>⟨_,rfl,Nat.lt_succ_self _,fun j u hu=>by
  rw [Addr.add_lit,Nat.zero_add]
  rw [pCells_take,List.getElem?_take] at hu
  split at hu
  ·exact Row.cell_take r hx hu
  ·cases hu⟩⟩
theorem reads_drop {W:World} {g c:Nat} {cur:Array Value} {l:List Pt} (r:Row W g (.cells cur 32)) (hx:cur.toList.take (l.length * 5)=pCells l) {k:Nat} (hk:k≤l.length):Reads W (g+1) 5 (some ⟨g,k * 5,none⟩) (l.length - k) (pCells (l.drop k)) :=
 ⟨by rw [pCells_length,List.length_drop],fun _=>⟨_,rfl,Nat.lt_succ_self _,fun j u hu=>by
  rw [Addr.add_lit]
  rw [pCells_drop,List.getElem?_drop] at hu
  exact Row.cell_take r hx hu⟩⟩
theorem own_patR {W:World} {n k c:Nat} {p:Option Addr} {l:List Pt} (h:W.ownsRow n 32 5 (.slice p k c) k (pCells l)) (hl:l.length=k):PAt W p l:=by
 subst hl
 obtain ⟨p3,c3,e3,_,_,h3⟩:=PRow.open (own_row h)
 injection e3 with e5
 subst e5
 exact h3
theorem le_below {n:Nat} {w w':World} (h:n≤w.heap.size) (hB:Below w.heap.size w w'):n≤w'.heap.size:=Nat.le_trans h hB.size
theorem reads_new (X:World) (a:Pt):Reads (X.alloc (.cells #[.int .i64 (a.t:Int),.string (S a.iv.lo.num),.string (S (a.iv.lo.den:Int)),.string (S a.iv.hi.num),.string (S (a.iv.hi.den:Int))] 32)) (X.heap.size+1) 5 (some ⟨X.heap.size,0,none⟩) 1 (pC a) :=
 ⟨rfl,fun _=>⟨_,rfl,Nat.lt_succ_self _,fun j u hu=>by rw [Addr.add_lit,Nat.zero_add];exact Row.cell_at (row_new X _) j (by simpa [pC] using hu)⟩⟩
theorem ptD_lt_next {l:List Pt} {T:Int} {j:Nat} (h:∀ t,j+1≤t→t<l.length→T<((ptD l t).t:Int)) (hj:T<((ptD l j).t:Int)):∀ t,j≤t→t<l.length→T<((ptD l t).t:Int):=fun t h1 h2=>by
 rcases Nat.eq_or_lt_of_le h1 with rfl | h1
 ·exact hj
 ·exact h t h1 h2
theorem upTo_at {l:List Pt} {T:Int} {k:Nat} (hs:l.Pairwise fun a b=>a.t≤b.t) (hk:k≤l.length) (h:∀ t,k≤t→t<l.length→T<((ptD l t).t:Int)) (h0:k=0∨∃ j,k=j+1∧((ptD l j).t:Int)≤T):k=upTo l T:=by
 refine upTo_find hk (fun t ht=>decide_eq_false ?_) (fun t h1 h2=>decide_eq_true (h t h1 h2))
 rcases h0 with rfl | ⟨j,rfl,hj⟩
 ·omega
 ·have:=sorted_mono hs (show t≤j by omega) (by omega)
  omega
theorem r12add_some {r:Rat} {l:List Pt} {a:Pt} (ho:Hist.Ok ⟨r,l⟩) (hoi:Hist.Ok ⟨r,ins l a⟩) (g m c:Nat) (cur:Array Value) (hm:l.length=m) (hmc:m≤c) (w:World) (hr:Row w g (.cells cur 32)) (hx:cur.toList.take (l.length * 5)=pCells l) :
  Calls Tryz.prog 19 #[.agg #[.string (S r.num),.string (S (r.den:Int)),.slice (some ⟨g,0,none⟩) m c],.agg #[.int .i64 (a.t:Int),.string (S a.iv.lo.num),.string (S (a.iv.lo.den:Int)),.string (S a.iv.hi.num),.string (S (a.iv.hi.den:Int))]] w (AddOk r (ins l a) w):=by
 have hB:Below w.heap.size w w:=Below.refl _ _
 obtain ⟨i0,hi,hz0,hz1,hz2⟩:=info_parts pointInfo
 have hfew:=ho.few
 have hs:=ho.sorted
 have MV:=fun W (hp:PAt W (some ⟨g,0,none⟩) l)=>r12valid ho (some ⟨g,0,none⟩) m c hm W hp
 have hp:PAt w (some ⟨g,0,none⟩) l := .inr ⟨g,cur,rfl,hr,hx⟩
 have HP:=Lib.hid hp
 simp only [hm] at hfew
 have HM:=Lib.hid hm
 have hg:=hr.1
 have HR:=Lib.hid hr
 have HX:=Lib.hid hx
 have hk9:=upTo_le l (a.t:Int)
 rw [hm] at hk9
 have hlen:(ins l a).length=(m+1):=by rw [ins_length,hm]
 have MV2:=fun q d W (hp:PAt W q (ins l a))=>r12valid hoi q (m+1) d hlen W hp
 unfold BoolOk HV at MV MV2
 unfold AddOk
 rw [hlen]
 simp only at MV MV2
 have HIL:=Lib.hid hlen
 clear ho hoi hlen hp hr hx hm
 go_enter Tryz.func19, Tryz.ntmps19
 go_wp2_with fail
 have d0_o:w.heap.size≤w.heap.size+1+1:=by have:=hB.size;omega
 have sB:=hB.size
 refine world_cut (fun X=>Below w.heap.size w X∧Row X w.heap.size (.cells #[.string (S r.num),.string (S (r.den:Int)),.slice (some ⟨g,0,none⟩) m c] 26)∧Row X (w.heap.size+1) (.cells #[.int .i64 (a.t:Int),.string (S a.iv.lo.num),.string (S (a.iv.lo.den:Int)),.string (S a.iv.hi.num),.string (S (a.iv.hi.den:Int))] 32)∧Row X (w.heap.size+1+1) (.cells #[.string ⟨#[]⟩,.string ⟨#[]⟩,.slice none 0 0] 26)) ⟨BW,RWh,RWh,RWh⟩ ?_
 clear hB sB
 rintro V1 ⟨hB,rh,rq,ro⟩
 have sh:=RF3 rh
 have sq:=RF5 rq
 have so:=RFz3 ro
 refine (MV _ (HP.out.below hB)).mono ?_
 rintro e W2 ⟨rfl,h1⟩
 clear sh
 clear sq
 clear so
 replace hB:=hB.trans (h1.mono hB.size)
 replace rh:=Row.below rh h1
 replace rq:=Row.below rq h1
 replace ro:=Row.below ro h1
 clear h1
 have sh:=RF3 rh
 have sq:=RF5 rq
 have so:=RFz3 ro
 go_wp2_with fail
 clear sh
 clear sq
 clear so
 go_loopw [6] (fun v6 wr=>∃ k:Nat,v6 = .int .i64 (k:Int)∧k≤m∧Hid (∀ t,k≤t→t<l.length→(a.t:Int)<((ptD l t).t:Int))∧Below w.heap.size w wr∧Row wr w.heap.size (.cells #[.string (S r.num),.string (S (r.den:Int)),.slice (some ⟨g,0,none⟩) m c] 26)∧Row wr (w.heap.size+1) (.cells #[.int .i64 (a.t:Int),.string (S a.iv.lo.num),.string (S (a.iv.lo.den:Int)),.string (S a.iv.hi.num),.string (S (a.iv.hi.den:Int))] 32)∧Row wr (w.heap.size+1+1) (.cells #[.string ⟨#[]⟩,.string ⟨#[]⟩,.slice none 0 0] 26)) (fun v6 _=>(RowKit.intOf v6).toNat)
 case atStart=>exact ⟨m,rfl,Nat.le_refl _,Lib.hid (fun t h1 h2=>by have:=HM.out;omega),hB,rh,rq,ro⟩
 case round =>
  clear hB rh rq ro
  obtain ⟨k,rfl,hkm,HK,hB,rh,rq,ro⟩:=hrel
  rcases Nat.eq_zero_or_pos k with hk0 | hk0
  ·have HK0:=Lib.hid hk0
   clear hk0
   have hk1:¬ ((0:Int)<(k:Int)):=by have:=HK0.out;omega
   have sh:=RF3 rh
   have sq:=RF5 rq
   have so:=RFz3 ro
   go_wp2_with fail
   refine wp_region_vals [.int .i64 (k:Int),.bool false,.bool false,undef,undef,undef,undef,undef,undef,undef,undef,undef,undef,.bool false] (by kernel_rfl) (by kernel_rfl) rfl (allVals.cons qv0 (allVals.cons (qvf HK0.out) (allVals.cons qv0 (allVals.cons qv0 (allVals.cons qv0 (allVals.cons qv0 (allVals.cons qv0 (allVals.cons qv0 (allVals.cons qv0 (allVals.cons qv0 (allVals.cons qv0 (allVals.cons qv0 (allVals.cons qv0 (allVals.cons (qvf HK0.out) trivial)))))))))))))) ?_
   rintro W h1
   clear sh
   clear sq
   clear so
   replace hB:=hB.trans (h1.mono hB.size)
   replace rh:=Row.below rh h1
   replace rq:=Row.below rq h1
   replace ro:=Row.below ro h1
   clear h1
   have sh:=RF3 rh
   have sq:=RF5 rq
   have so:=RFz3 ro
   simp only [setVals,List.setIfInBounds_toArray,List.set_cons_succ,List.set_cons_zero]
   have hku:k=upTo l (a.t:Int):=upTo_at hs (by have:=HM.out;omega) HK.out (.inl HK0.out)
   have hins:pCells (l.take k) ++ pC a ++ pCells (l.drop k)=pCells (ins l a):=by rw [hku];unfold ins;rw [pCells_app,pCells_cons,List.append_assoc]
   have hkl:k≤l.length:=by have:=HM.out;omega
   have HINS:=Lib.hid hins
   clear hins hku hs HK
   have sh:=RF3 rh
   have sq:=RF5 rq
   have so:=RFz3 ro
   go_upto_region 7 with fail
   have dh_z:w.heap.size<W.heap.size:=by omega
   have dq_z:w.heap.size+1<W.heap.size:=by omega
   have do_z:w.heap.size+1+1<W.heap.size:=by omega
   have d0_z:w.heap.size≤W.heap.size:=by have:=hB.size;omega
   have sB:=hB.size
   refine wp_cut (fun X=>Below w.heap.size w X∧Row X w.heap.size (.cells #[.string (S r.num),.string (S (r.den:Int)),.slice (some ⟨g,0,none⟩) m c] 26)∧Row X (w.heap.size+1) (.cells #[.int .i64 (a.t:Int),.string (S a.iv.lo.num),.string (S (a.iv.lo.den:Int)),.string (S a.iv.hi.num),.string (S (a.iv.hi.den:Int))] 32)∧Row X (w.heap.size+1+1) (.cells #[.string ⟨#[]⟩,.string ⟨#[]⟩,.slice none 0 0] 26)∧Row X W.heap.size (.cells #[.string (S r.num),.string (S (r.den:Int)),.slice none 0 0] 26)) ⟨BW,RWh,RWh,RWh,RWh⟩ ?_
   clear rh
   clear sh
   clear rq
   clear sq
   clear ro
   clear so
   clear hB sB
   rintro V3 ⟨hB,rh,rq,ro,rz⟩
   have sh:=RF3 rh
   have sq:=RF5 rq
   have so:=RFz3 ro
   have sz:=RFz3 rz
   generalize hzb:W.heap.size=zb at *
   clear hzb
   have hzz:=rz.1
   have hoo:=ro.1
   have hqq:=rq.1
   obtain ⟨n0,hn0⟩:∃ n0,n0=V3.heap.size:=⟨_,rfl⟩
   rw [← hn0] at hzz hoo hqq
   have hfx:=And.intro (show (k:Int)≤(m:Int) by omega) (And.intro (show (0:Int)≤(k:Int) by omega) (And.intro hkm (And.intro (show (k:Int)≤(c:Int) by omega) (show k≤c by omega))))
   have hsz:n0≤V3.heap.size:=by omega
   go_wp2_with fail
   refine wp_region_items3 6 [.val (.pointer (some ⟨zb,2,none⟩)),.val (.slice none 0 0),.val (.pointer (some ⟨w.heap.size,2,none⟩)),.val (.slice (some ⟨g,0,none⟩) m c),.val (.int .i64 (k:Int)),.val (.slice (some ⟨g,0,none⟩) k c)] [] (by kernel_rfl) (by kernel_rfl) rfl trivial (allItems.cons qi0 (allItems.cons (qi1 fun X h=>RFz3 (Row.below rz h)) (allItems.cons qi0 (allItems.cons (qi1 fun X h=>RF3 (Row.below rh h)) (allItems.cons qi0 (allItems.cons (qif hfx) trivial)))))) ?_
   rintro W h1
   clear sh
   clear sq
   clear so
   clear sz
   replace hB:=hB.trans (h1.mono hB.size)
   replace rh:=Row.below rh h1
   replace rq:=Row.below rq h1
   replace ro:=Row.below ro h1
   replace rz:=Row.below rz h1
   replace hsz:=le_below hsz h1
   clear h1
   have sh:=RF3 rh
   have sq:=RF5 rq
   have so:=RFz3 ro
   skip
   have sz:=RFz3 rz
   simp only [setItems,List.setIfInBounds_toArray,List.set_cons_succ,List.set_cons_zero,List.take_succ_cons,List.take_zero,List.drop_succ_cons,List.drop_zero]
   intro _
   have hown:W.ownsRow n0 32 5 (.slice none 0 0) 0 []:=⟨rfl,.inl ⟨rfl,rfl⟩⟩
   clear sh
   clear sq
   clear so
   clear sz
   go_upto_region 8 with (at_builtin;refine wpList_append_reads _ rfl (.tmp 35) (.tmp 39) 24 rfl n0 32 i0 (.agg #[.int .i64 0,.string ⟨#[]⟩,.string ⟨#[]⟩,.string ⟨#[]⟩,.string ⟨#[]⟩]) 5 72 Tryz.underlying24 hi hz0 hz1 hz2 rfl (by decide) (.slice none 0 0) 0 ([]) rfl (hown) (g+1) (some ⟨g,0,none⟩) k c (pCells (l.take k)) rfl (reads_take (c:=0) (Row.below HR.out hB) HX.out hkl) (pCells_one _) (by unfold maxLen;omega) (by omega) (by first | omega | (simp;omega)) ?_;intro v' W7 hown' hgrow';(try simp only [Nat.zero_add,List.nil_append] at hown');obtain ⟨p',c',rfl⟩:=own_slice hown';replace rh:=own_row_ne (hown) hgrow' (rh) (by omega);replace rq:=own_row_ne (hown) hgrow' (rq) (by omega);replace ro:=own_row_ne (hown) hgrow' (ro) (by omega);replace rz:=own_row_ne (hown) hgrow' (rz) (by omega);replace hB:=Below.grown (hB) hgrow' (by first | omega | (simp;omega)) (fun k hk=>by have:=(World.ownsRow.lt hown k hk).1;omega);replace hsz:n0≤W7.heap.size:=Nat.le_trans (by first | omega | (simp;omega)) hgrow'.size;replace hown:=hown';clear hown' hgrow';have zc0:=Row.cell_at rz 0 rfl;have zc1:=Row.cell_at rz 1 rfl;have zc2:=Row.cell_at rz 2 rfl;have zf0:=frozen_of_row _ _ 0 _ _ rz.2;have zf1:=frozen_of_row _ _ 1 _ _ rz.2;have zf2:=frozen_of_row _ _ 2 _ _ rz.2;have zs:=rz.1;have hc0:=Row.cell_at rh 0 rfl;have hc1:=Row.cell_at rh 1 rfl;have hc2:=Row.cell_at rh 2 rfl;have qc0:=Row.cell_at rq 0 rfl;have qc1:=Row.cell_at rq 1 rfl;have qc2:=Row.cell_at rq 2 rfl;have qc3:=Row.cell_at rq 3 rfl;have qc4:=Row.cell_at rq 4 rfl)
   have sB:=hB.size
   refine wp_cut (fun X=>Below w.heap.size w X∧n0≤X.heap.size∧X.ownsRow n0 32 5 (.slice p' k c') k (pCells (l.take k))∧Row X w.heap.size (.cells #[.string (S r.num),.string (S (r.den:Int)),.slice (some ⟨g,0,none⟩) m c] 26)∧Row X (w.heap.size+1) (.cells #[.int .i64 (a.t:Int),.string (S a.iv.lo.num),.string (S (a.iv.lo.den:Int)),.string (S a.iv.hi.num),.string (S (a.iv.hi.den:Int))] 32)∧Row X (w.heap.size+1+1) (.cells #[.string ⟨#[]⟩,.string ⟨#[]⟩,.slice none 0 0] 26)∧Row X zb (.cells #[.string (S r.num),.string (S (r.den:Int)),.slice p' k c'] 26)) ⟨BW,(by first | omega | (simp;omega)),OW,RWh,RWh,RWh,rz.set_same rfl⟩ ?_
   clear hB hsz hown rh rq ro rz sB zc0 zc1 zc2 zf0 zf1 zf2 zs hc0 hc1 hc2 qc0 qc1 qc2 qc3 qc4
   rintro Y4 ⟨hB,hsz,hown,rh,rq,ro,rz⟩
   skip
   skip
   skip
   skip
   have sh:=RF3 rh
   have sq:=RF5 rq
   have so:=RFz3 ro
   have sz:=RFz3 rz
   clear sh
   clear sq
   clear so
   clear sz
   have zc0:=Row.cell_at rz 0 rfl;have zc1:=Row.cell_at rz 1 rfl;have zc2:=Row.cell_at rz 2 rfl;have qc0:=Row.cell_at rq 0 rfl;have qc1:=Row.cell_at rq 1 rfl;have qc2:=Row.cell_at rq 2 rfl;have qc3:=Row.cell_at rq 3 rfl;have qc4:=Row.cell_at rq 4 rfl;have zs:=rz.1;have qs:=rq.1
   have rdn:∀ X:World,Reads (X.alloc (.cells #[.int .i64 (a.t:Int),.string (S a.iv.lo.num),.string (S (a.iv.lo.den:Int)),.string (S a.iv.hi.num),.string (S (a.iv.hi.den:Int))] 32)) (X.heap.size+1) 5 (some ⟨X.heap.size,0,none⟩) 1 (pC a):=fun X=>reads_new X a
   go_upto_region 9 with (at_builtin;refine wpList_append_reads _ rfl (.tmp 43) (.tmp 45) 24 rfl n0 32 i0 (.agg #[.int .i64 0,.string ⟨#[]⟩,.string ⟨#[]⟩,.string ⟨#[]⟩,.string ⟨#[]⟩]) 5 72 Tryz.underlying24 hi hz0 hz1 hz2 rfl (by decide) (.slice p' k c') k (pCells (l.take k)) rfl (hown.alloc _) (Y4.heap.size+1) (some ⟨Y4.heap.size,0,none⟩) 1 1 (pC a) rfl (rdn _) (by intro u hu;exact pCells_one [a] u (by simpa [pCells] using hu)) (by unfold maxLen;omega) (by omega) (by first | omega | (simp;omega)) ?_;intro v' W8 hown' hgrow';clear zc0 zc1 zc2 qc0 qc1 qc2 qc3 qc4 zs qs;(try simp only [Nat.zero_add,List.nil_append] at hown');obtain ⟨p',c',rfl⟩:=own_slice hown';replace rh:=own_row_ne (hown.alloc _) hgrow' (rh.alloc _) (by omega);replace rq:=own_row_ne (hown.alloc _) hgrow' (rq.alloc _) (by omega);replace ro:=own_row_ne (hown.alloc _) hgrow' (ro.alloc _) (by omega);replace rz:=own_row_ne (hown.alloc _) hgrow' (rz.alloc _) (by omega);replace hB:=Below.grown (hB.alloc (by omega) _) hgrow' (by first | omega | (simp;omega)) (fun k hk=>by have:=(World.ownsRow.lt hown k hk).1;omega);replace hsz:n0≤W8.heap.size:=Nat.le_trans (by first | omega | (simp;omega)) hgrow'.size;replace hown:=hown';clear hown' hgrow';have zc0:=Row.cell_at rz 0 rfl;have zc1:=Row.cell_at rz 1 rfl;have zc2:=Row.cell_at rz 2 rfl;have zf0:=frozen_of_row _ _ 0 _ _ rz.2;have zf1:=frozen_of_row _ _ 1 _ _ rz.2;have zf2:=frozen_of_row _ _ 2 _ _ rz.2;have zs:=rz.1;have hc0:=Row.cell_at rh 0 rfl;have hc1:=Row.cell_at rh 1 rfl;have hc2:=Row.cell_at rh 2 rfl;have qc0:=Row.cell_at rq 0 rfl;have qc1:=Row.cell_at rq 1 rfl;have qc2:=Row.cell_at rq 2 rfl;have qc3:=Row.cell_at rq 3 rfl;have qc4:=Row.cell_at rq 4 rfl)
   have sB:=hB.size
   refine wp_cut (fun X=>Below w.heap.size w X∧n0≤X.heap.size∧X.ownsRow n0 32 5 (.slice p' (k+1) c') (k+1) (pCells (l.take k) ++ pC a)∧Row X w.heap.size (.cells #[.string (S r.num),.string (S (r.den:Int)),.slice (some ⟨g,0,none⟩) m c] 26)∧Row X (w.heap.size+1) (.cells #[.int .i64 (a.t:Int),.string (S a.iv.lo.num),.string (S (a.iv.lo.den:Int)),.string (S a.iv.hi.num),.string (S (a.iv.hi.den:Int))] 32)∧Row X (w.heap.size+1+1) (.cells #[.string ⟨#[]⟩,.string ⟨#[]⟩,.slice none 0 0] 26)∧Row X zb (.cells #[.string (S r.num),.string (S (r.den:Int)),.slice p' (k+1) c'] 26)) ⟨BW,(by first | omega | (simp;omega)),OW,RWh,RWh,RWh,rz.set_same rfl⟩ ?_
   clear hB hsz hown rh rq ro rz sB zc0 zc1 zc2 zf0 zf1 zf2 zs hc0 hc1 hc2 qc0 qc1 qc2 qc3 qc4
   rintro Y5 ⟨hB,hsz,hown,rh,rq,ro,rz⟩
   skip
   skip
   skip
   skip
   have sh:=RF3 rh
   have sq:=RF5 rq
   have so:=RFz3 ro
   have sz:=RFz3 rz
   have sh:=RF3 rh
   have sq:=RF5 rq
   have so:=RFz3 ro
   have sz:=RFz3 rz
   go_wp2_with fail
   refine wp_region_items3 6 [.val (.pointer (some ⟨zb,2,none⟩)),.val (.slice p' (k+1) c'),.val (.pointer (some ⟨w.heap.size,2,none⟩)),.val (.slice (some ⟨g,0,none⟩) m c),.val (.int .i64 (k:Int)),.val (.slice (some ⟨g,k * 5,none⟩) (m - k) (c - k))] [] (by kernel_rfl) (by kernel_rfl) rfl trivial (allItems.cons qi0 (allItems.cons (qi1 fun X h=>RFz3 (Row.below rz h)) (allItems.cons qi0 (allItems.cons (qi1 fun X h=>RF3 (Row.below rh h)) (allItems.cons qi0 (allItems.cons (qif hfx) trivial)))))) ?_
   rintro W h1
   clear sh
   clear sq
   clear so
   clear sz
   replace hB:=hB.trans (h1.mono hB.size)
   replace rh:=Row.below rh h1
   replace rq:=Row.below rq h1
   replace ro:=Row.below ro h1
   replace rz:=Row.below rz h1
   replace hsz:=le_below hsz h1
   replace hown:=own_later hown h1
   clear h1
   have sh:=RF3 rh
   have sq:=RF5 rq
   have so:=RFz3 ro
   have sz:=RFz3 rz
   simp only [setItems,List.setIfInBounds_toArray,List.set_cons_succ,List.set_cons_zero,List.take_succ_cons,List.take_zero,List.drop_succ_cons,List.drop_zero]
   intro _
   clear sh
   clear sq
   clear so
   clear sz
   go_upto_region 10 with (at_builtin;refine wpList_append_reads _ rfl (.tmp 49) (.tmp 53) 24 rfl n0 32 i0 (.agg #[.int .i64 0,.string ⟨#[]⟩,.string ⟨#[]⟩,.string ⟨#[]⟩,.string ⟨#[]⟩]) 5 72 Tryz.underlying24 hi hz0 hz1 hz2 rfl (by decide) (.slice p' (k+1) c') (k+1) (pCells (l.take k) ++ pC a) rfl (hown) (g+1) (some ⟨g,k * 5,none⟩) (m - k) (c - k) (pCells (l.drop k)) rfl ((by have:=reads_drop (c:=0) (Row.below HR.out hB) HX.out hkl;rwa [HM.out] at this)) (pCells_one _) (by unfold maxLen;omega) (by omega) (by first | omega | (simp;omega)) ?_;intro v' W9 hown' hgrow';(try rw [HINS.out] at hown');(try rw [show k+1+(m - k)=m+1 by omega] at hown');obtain ⟨p',c',rfl⟩:=own_slice hown';replace rh:=own_row_ne (hown) hgrow' (rh) (by omega);replace rq:=own_row_ne (hown) hgrow' (rq) (by omega);replace ro:=own_row_ne (hown) hgrow' (ro) (by omega);replace rz:=own_row_ne (hown) hgrow' (rz) (by omega);replace hB:=Below.grown (hB) hgrow' (by first | omega | (simp;omega)) (fun k hk=>by have:=(World.ownsRow.lt hown k hk).1;omega);replace hsz:n0≤W9.heap.size:=Nat.le_trans (by first | omega | (simp;omega)) hgrow'.size;replace hown:=hown';clear hown' hgrow';have zc0:=Row.cell_at rz 0 rfl;have zc1:=Row.cell_at rz 1 rfl;have zc2:=Row.cell_at rz 2 rfl;have zf0:=frozen_of_row _ _ 0 _ _ rz.2;have zf1:=frozen_of_row _ _ 1 _ _ rz.2;have zf2:=frozen_of_row _ _ 2 _ _ rz.2;have zs:=rz.1;have hc0:=Row.cell_at rh 0 rfl;have hc1:=Row.cell_at rh 1 rfl;have hc2:=Row.cell_at rh 2 rfl;have qc0:=Row.cell_at rq 0 rfl;have qc1:=Row.cell_at rq 1 rfl;have qc2:=Row.cell_at rq 2 rfl;have qc3:=Row.cell_at rq 3 rfl;have qc4:=Row.cell_at rq 4 rfl)
   have sB:=hB.size
   refine wp_cut (fun X=>Below w.heap.size w X∧n0≤X.heap.size∧X.ownsRow n0 32 5 (.slice p' (m+1) c') (m+1) (pCells (ins l a))∧Row X w.heap.size (.cells #[.string (S r.num),.string (S (r.den:Int)),.slice (some ⟨g,0,none⟩) m c] 26)∧Row X (w.heap.size+1) (.cells #[.int .i64 (a.t:Int),.string (S a.iv.lo.num),.string (S (a.iv.lo.den:Int)),.string (S a.iv.hi.num),.string (S (a.iv.hi.den:Int))] 32)∧Row X (w.heap.size+1+1) (.cells #[.string ⟨#[]⟩,.string ⟨#[]⟩,.slice none 0 0] 26)∧Row X zb (.cells #[.string (S r.num),.string (S (r.den:Int)),.slice p' (m+1) c'] 26)) ⟨BW,(by first | omega | (simp;omega)),OW,RWh,RWh,RWh,rz.set_same rfl⟩ ?_
   clear hB hsz hown rh rq ro rz sB zc0 zc1 zc2 zf0 zf1 zf2 zs hc0 hc1 hc2 qc0 qc1 qc2 qc3 qc4
   rintro Y6 ⟨hB,hsz,hown,rh,rq,ro,rz⟩
   skip
   skip
   skip
   skip
   have sh:=RF3 rh
   have sq:=RF5 rq
   have so:=RFz3 ro
   have sz:=RFz3 rz
   clear rh
   clear sh
   skip
   clear rq
   clear sq
   skip
   go_wp2_with fail
   refine (MV2 _ _ _ (own_patR hown HIL.out)).mono ?_
   rintro e W7 ⟨rfl,h1⟩
   clear so
   clear sz
   replace hB:=hB.trans (h1.mono hB.size)
   replace ro:=Row.below ro h1
   replace rz:=Row.below rz h1
   replace hsz:=le_below hsz h1
   replace hown:=own_later hown h1
   clear h1
   have so:=RFz3 ro
   have sz:=RFz3 rz
   go_wp2_with fail
   have sB:=hB.size
   refine post_cut (fun X=>Below w.heap.size w X∧Row X (w.heap.size+1+1) (.cells #[.string (S r.num),.string (S (r.den:Int)),.slice p' (m+1) c'] 26)∧X.ownsRow w.heap.size 32 5 (.slice p' (m+1) c') (m+1) (pCells (ins l a))) ⟨BW,RWh,own_set3 (own_at hown (by omega)) ro (by decide)⟩ ?_
   clear hB ro hown
   rintro X ⟨hB,ro,hown⟩
   have e0:=Row.cell_at ro 0 rfl
   have e1:=Row.cell_at ro 1 rfl
   have e2:=Row.cell_at ro 2 rfl
   refine bodyPost_ret (v := .tuple #[.agg #[.string (S r.num),.string (S (r.den:Int)),.slice p' (m+1) c'],.int .i64 0]) ?res rfl ⟨p',c',hown,rfl,hB⟩
   case res=>simp [results,Tryz.results19, go_sem,e0,e1,e2]
  ·obtain ⟨j,hij⟩:∃ j,k=j+1:=⟨k - 1,by omega⟩
   have hjl:j<l.length:=by have:=HM.out;omega
   obtain ⟨u,hu⟩:∃ u,u=(ptD l j).t:=⟨_,rfl⟩
   obtain ⟨g',cur2,hg2,rg,g0, -, -, -, -⟩:=PAt.at (PAt.below HP.out hB) hjl
   simp only [Option.some.injEq,Addr.mk.injEq,and_true] at hg2
   subst hg2
   rw [← hu] at g0
   have HU:=Lib.hid hu
   have HIJ:=Lib.hid hij
   clear hu hij
   have sh:=RF3 rh
   have sq:=RF5 rq
   have so:=RFz3 ro
   have Fg:∀ X,Row X g (.cells cur2 32)→(g<X.heap.size∧X.cell? ⟨g,j * 5,none⟩=some (.int .i64 (u:Int))):=fun X h=>⟨h.1,Row.cell_at h _ g0⟩
   have sg:=Fg _ rg
   have hw1:IntKind.i64.wrap ((k:Int) - 1)=(j:Int):=by rw [IntKind.wrap_i64];have:=HIJ.out;omega
   have hjI:(j:Int)<(m:Int):=by have:=HIJ.out;omega
   have hk1:(0:Int)<(k:Int):=by omega
   by_cases hau:a.t<u
   ·have hau1:(a.t:Int)<(u:Int):=by omega
    have hau2:=Lib.hid hau
    have hfx:=Lib.hid (And.intro hw1 (And.intro hjI (And.intro hk1 (And.intro hk0 (And.intro hau hau1)))))
    go_wp2_with fail
    refine wp_region_vals [.int .i64 (k:Int),.bool true,.bool true,.pointer (some ⟨w.heap.size,2,none⟩),.slice (some ⟨g,0,none⟩) m c,.int .i64 (k:Int),.int .i64 (j:Int),.pointer (some ⟨g,j * 5,none⟩),.pointer (some ⟨g,j * 5,none⟩),.int .i64 (u:Int),.pointer (some ⟨w.heap.size+1,0,none⟩),.int .i64 (a.t:Int),.bool true,.bool true] (by kernel_rfl) (by kernel_rfl) rfl (allVals.cons qv0 (allVals.cons (qvf hfx.out) (allVals.cons qv0 (allVals.cons qv0 (allVals.cons (qv1 fun X h=>RF3 (Row.below rh h)) (allVals.cons qv0 (allVals.cons (qvf hfx.out) (allVals.cons (qvf hfx.out) (allVals.cons qv0 (allVals.cons (qv1 fun X h=>Fg X (Row.below rg h)) (allVals.cons qv0 (allVals.cons (qv1 fun X h=>RF5 (Row.below rq h)) (allVals.cons (qvf hfx.out) (allVals.cons (qvf hfx.out) trivial)))))))))))))) ?_
    rintro W h1
    clear sh
    clear sq
    clear so
    clear sg
    replace hB:=hB.trans (h1.mono hB.size)
    replace rh:=Row.below rh h1
    replace rq:=Row.below rq h1
    replace ro:=Row.below ro h1
    replace rg:=Row.below rg h1
    clear h1
    have sh:=RF3 rh
    have sq:=RF5 rq
    have so:=RFz3 ro
    have sg:=Fg _ rg
    simp only [setVals,List.setIfInBounds_toArray,List.set_cons_succ,List.set_cons_zero]
    go_wp2
    go_roundw
    case rel=>exact ⟨j,by go_num,by omega,Lib.hid (ptD_lt_next (by have h9:=HK.out;rw [HIJ.out] at h9;exact h9) (by rw [← HU.out];exact hau1)),BW,RWh,RWh,RWh⟩
    case measure=>have:=HIJ.out;simp [RowKit.intOf];try omega
   ·have hau1:(u:Int)≤(a.t:Int):=by omega
    have hau2:=Lib.hid hau
    have hfx:=Lib.hid (And.intro hw1 (And.intro hjI (And.intro hk1 (And.intro hk0 (And.intro (Nat.not_lt.1 hau) hau1)))))
    go_wp2_with fail
    refine wp_region_vals [.int .i64 (k:Int),.bool true,.bool true,.pointer (some ⟨w.heap.size,2,none⟩),.slice (some ⟨g,0,none⟩) m c,.int .i64 (k:Int),.int .i64 (j:Int),.pointer (some ⟨g,j * 5,none⟩),.pointer (some ⟨g,j * 5,none⟩),.int .i64 (u:Int),.pointer (some ⟨w.heap.size+1,0,none⟩),.int .i64 (a.t:Int),.bool false,.bool false] (by kernel_rfl) (by kernel_rfl) rfl (allVals.cons qv0 (allVals.cons (qvf hfx.out) (allVals.cons qv0 (allVals.cons qv0 (allVals.cons (qv1 fun X h=>RF3 (Row.below rh h)) (allVals.cons qv0 (allVals.cons (qvf hfx.out) (allVals.cons (qvf hfx.out) (allVals.cons qv0 (allVals.cons (qv1 fun X h=>Fg X (Row.below rg h)) (allVals.cons qv0 (allVals.cons (qv1 fun X h=>RF5 (Row.below rq h)) (allVals.cons (qvf hfx.out) (allVals.cons (qvf hfx.out) trivial)))))))))))))) ?_
    rintro W h1
    clear sh
    clear sq
    clear so
    clear sg
    replace hB:=hB.trans (h1.mono hB.size)
    replace rh:=Row.below rh h1
    replace rq:=Row.below rq h1
    replace ro:=Row.below ro h1
    replace rg:=Row.below rg h1
    clear h1
    have sh:=RF3 rh
    have sq:=RF5 rq
    have so:=RFz3 ro
    have sg:=Fg _ rg
    simp only [setVals,List.setIfInBounds_toArray,List.set_cons_succ,List.set_cons_zero]
    clear hfx hw1
    have hku:k=upTo l (a.t:Int):=upTo_at hs (by have:=HM.out;omega) HK.out (.inr ⟨j,HIJ.out,by rw [← HU.out];exact hau1⟩)
    have hins:pCells (l.take k) ++ pC a ++ pCells (l.drop k)=pCells (ins l a):=by rw [hku];unfold ins;rw [pCells_app,pCells_cons,List.append_assoc]
    have hkl:k≤l.length:=by have:=HM.out;omega
    have HINS:=Lib.hid hins
    clear hins hku hs HK
    have sh:=RF3 rh
    have sq:=RF5 rq
    have so:=RFz3 ro
    go_upto_region 7 with fail
    have dh_z:w.heap.size<W.heap.size:=by omega
    have dq_z:w.heap.size+1<W.heap.size:=by omega
    have do_z:w.heap.size+1+1<W.heap.size:=by omega
    have d0_z:w.heap.size≤W.heap.size:=by have:=hB.size;omega
    clear Fg
    have sB:=hB.size
    refine wp_cut (fun X=>Below w.heap.size w X∧Row X w.heap.size (.cells #[.string (S r.num),.string (S (r.den:Int)),.slice (some ⟨g,0,none⟩) m c] 26)∧Row X (w.heap.size+1) (.cells #[.int .i64 (a.t:Int),.string (S a.iv.lo.num),.string (S (a.iv.lo.den:Int)),.string (S a.iv.hi.num),.string (S (a.iv.hi.den:Int))] 32)∧Row X (w.heap.size+1+1) (.cells #[.string ⟨#[]⟩,.string ⟨#[]⟩,.slice none 0 0] 26)∧Row X W.heap.size (.cells #[.string (S r.num),.string (S (r.den:Int)),.slice none 0 0] 26)) ⟨BW,RWh,RWh,RWh,RWh⟩ ?_
    clear rh
    clear sh
    clear rq
    clear sq
    clear ro
    clear so
    clear rg
    clear sg
    clear hB sB
    rintro V3 ⟨hB,rh,rq,ro,rz⟩
    have sh:=RF3 rh
    have sq:=RF5 rq
    have so:=RFz3 ro
    have sz:=RFz3 rz
    generalize hzb:W.heap.size=zb at *
    clear hzb
    have hzz:=rz.1
    have hoo:=ro.1
    have hqq:=rq.1
    obtain ⟨n0,hn0⟩:∃ n0,n0=V3.heap.size:=⟨_,rfl⟩
    rw [← hn0] at hzz hoo hqq
    have hfx:=And.intro (show (k:Int)≤(m:Int) by omega) (And.intro (show (0:Int)≤(k:Int) by omega) (And.intro hkm (And.intro (show (k:Int)≤(c:Int) by omega) (show k≤c by omega))))
    rcases Nat.lt_or_ge k c with hkc | hkc
    ·replace hfx:=And.intro hfx (show ¬ (c=k) by omega)
     have hsz:n0≤V3.heap.size:=by omega
     go_wp2_with fail
     refine wp_region_items3 6 [.val (.pointer (some ⟨zb,2,none⟩)),.val (.slice none 0 0),.val (.pointer (some ⟨w.heap.size,2,none⟩)),.val (.slice (some ⟨g,0,none⟩) m c),.val (.int .i64 (k:Int)),.val (.slice (some ⟨g,0,none⟩) k c)] [] (by kernel_rfl) (by kernel_rfl) rfl trivial (allItems.cons qi0 (allItems.cons (qi1 fun X h=>RFz3 (Row.below rz h)) (allItems.cons qi0 (allItems.cons (qi1 fun X h=>RF3 (Row.below rh h)) (allItems.cons qi0 (allItems.cons (qif hfx) trivial)))))) ?_
     rintro W h1
     clear sh
     clear sq
     clear so
     clear sz
     replace hB:=hB.trans (h1.mono hB.size)
     replace rh:=Row.below rh h1
     replace rq:=Row.below rq h1
     replace ro:=Row.below ro h1
     replace rz:=Row.below rz h1
     replace hsz:=le_below hsz h1
     clear h1
     have sh:=RF3 rh
     have sq:=RF5 rq
     have so:=RFz3 ro
     skip
     have sz:=RFz3 rz
     simp only [setItems,List.setIfInBounds_toArray,List.set_cons_succ,List.set_cons_zero,List.take_succ_cons,List.take_zero,List.drop_succ_cons,List.drop_zero]
     intro _
     have hown:W.ownsRow n0 32 5 (.slice none 0 0) 0 []:=⟨rfl,.inl ⟨rfl,rfl⟩⟩
     clear sh
     clear sq
     clear so
     clear sz
     go_upto_region 8 with (at_builtin;refine wpList_append_reads _ rfl (.tmp 35) (.tmp 39) 24 rfl n0 32 i0 (.agg #[.int .i64 0,.string ⟨#[]⟩,.string ⟨#[]⟩,.string ⟨#[]⟩,.string ⟨#[]⟩]) 5 72 Tryz.underlying24 hi hz0 hz1 hz2 rfl (by decide) (.slice none 0 0) 0 ([]) rfl (hown) (g+1) (some ⟨g,0,none⟩) k c (pCells (l.take k)) rfl (reads_take (c:=0) (Row.below HR.out hB) HX.out hkl) (pCells_one _) (by unfold maxLen;omega) (by omega) (by first | omega | (simp;omega)) ?_;intro v' W7 hown' hgrow';(try simp only [Nat.zero_add,List.nil_append] at hown');obtain ⟨p',c',rfl⟩:=own_slice hown';replace rh:=own_row_ne (hown) hgrow' (rh) (by omega);replace rq:=own_row_ne (hown) hgrow' (rq) (by omega);replace ro:=own_row_ne (hown) hgrow' (ro) (by omega);replace rz:=own_row_ne (hown) hgrow' (rz) (by omega);replace hB:=Below.grown (hB) hgrow' (by first | omega | (simp;omega)) (fun k hk=>by have:=(World.ownsRow.lt hown k hk).1;omega);replace hsz:n0≤W7.heap.size:=Nat.le_trans (by first | omega | (simp;omega)) hgrow'.size;replace hown:=hown';clear hown' hgrow';have zc0:=Row.cell_at rz 0 rfl;have zc1:=Row.cell_at rz 1 rfl;have zc2:=Row.cell_at rz 2 rfl;have zf0:=frozen_of_row _ _ 0 _ _ rz.2;have zf1:=frozen_of_row _ _ 1 _ _ rz.2;have zf2:=frozen_of_row _ _ 2 _ _ rz.2;have zs:=rz.1;have hc0:=Row.cell_at rh 0 rfl;have hc1:=Row.cell_at rh 1 rfl;have hc2:=Row.cell_at rh 2 rfl;have qc0:=Row.cell_at rq 0 rfl;have qc1:=Row.cell_at rq 1 rfl;have qc2:=Row.cell_at rq 2 rfl;have qc3:=Row.cell_at rq 3 rfl;have qc4:=Row.cell_at rq 4 rfl)
     have sB:=hB.size
     refine wp_cut (fun X=>Below w.heap.size w X∧n0≤X.heap.size∧X.ownsRow n0 32 5 (.slice p' k c') k (pCells (l.take k))∧Row X w.heap.size (.cells #[.string (S r.num),.string (S (r.den:Int)),.slice (some ⟨g,0,none⟩) m c] 26)∧Row X (w.heap.size+1) (.cells #[.int .i64 (a.t:Int),.string (S a.iv.lo.num),.string (S (a.iv.lo.den:Int)),.string (S a.iv.hi.num),.string (S (a.iv.hi.den:Int))] 32)∧Row X (w.heap.size+1+1) (.cells #[.string ⟨#[]⟩,.string ⟨#[]⟩,.slice none 0 0] 26)∧Row X zb (.cells #[.string (S r.num),.string (S (r.den:Int)),.slice p' k c'] 26)) ⟨BW,(by first | omega | (simp;omega)),OW,RWh,RWh,RWh,rz.set_same rfl⟩ ?_
     clear hB hsz hown rh rq ro rz sB zc0 zc1 zc2 zf0 zf1 zf2 zs hc0 hc1 hc2 qc0 qc1 qc2 qc3 qc4
     rintro Y4 ⟨hB,hsz,hown,rh,rq,ro,rz⟩
     skip
     skip
     skip
     skip
     have sh:=RF3 rh
     have sq:=RF5 rq
     have so:=RFz3 ro
     have sz:=RFz3 rz
     clear sh
     clear sq
     clear so
     clear sz
     have zc0:=Row.cell_at rz 0 rfl;have zc1:=Row.cell_at rz 1 rfl;have zc2:=Row.cell_at rz 2 rfl;have qc0:=Row.cell_at rq 0 rfl;have qc1:=Row.cell_at rq 1 rfl;have qc2:=Row.cell_at rq 2 rfl;have qc3:=Row.cell_at rq 3 rfl;have qc4:=Row.cell_at rq 4 rfl;have zs:=rz.1;have qs:=rq.1
     have rdn:∀ X:World,Reads (X.alloc (.cells #[.int .i64 (a.t:Int),.string (S a.iv.lo.num),.string (S (a.iv.lo.den:Int)),.string (S a.iv.hi.num),.string (S (a.iv.hi.den:Int))] 32)) (X.heap.size+1) 5 (some ⟨X.heap.size,0,none⟩) 1 (pC a):=fun X=>reads_new X a
     go_upto_region 9 with (at_builtin;refine wpList_append_reads _ rfl (.tmp 43) (.tmp 45) 24 rfl n0 32 i0 (.agg #[.int .i64 0,.string ⟨#[]⟩,.string ⟨#[]⟩,.string ⟨#[]⟩,.string ⟨#[]⟩]) 5 72 Tryz.underlying24 hi hz0 hz1 hz2 rfl (by decide) (.slice p' k c') k (pCells (l.take k)) rfl (hown.alloc _) (Y4.heap.size+1) (some ⟨Y4.heap.size,0,none⟩) 1 1 (pC a) rfl (rdn _) (by intro u hu;exact pCells_one [a] u (by simpa [pCells] using hu)) (by unfold maxLen;omega) (by omega) (by first | omega | (simp;omega)) ?_;intro v' W8 hown' hgrow';clear zc0 zc1 zc2 qc0 qc1 qc2 qc3 qc4 zs qs;(try simp only [Nat.zero_add,List.nil_append] at hown');obtain ⟨p',c',rfl⟩:=own_slice hown';replace rh:=own_row_ne (hown.alloc _) hgrow' (rh.alloc _) (by omega);replace rq:=own_row_ne (hown.alloc _) hgrow' (rq.alloc _) (by omega);replace ro:=own_row_ne (hown.alloc _) hgrow' (ro.alloc _) (by omega);replace rz:=own_row_ne (hown.alloc _) hgrow' (rz.alloc _) (by omega);replace hB:=Below.grown (hB.alloc (by omega) _) hgrow' (by first | omega | (simp;omega)) (fun k hk=>by have:=(World.ownsRow.lt hown k hk).1;omega);replace hsz:n0≤W8.heap.size:=Nat.le_trans (by first | omega | (simp;omega)) hgrow'.size;replace hown:=hown';clear hown' hgrow';have zc0:=Row.cell_at rz 0 rfl;have zc1:=Row.cell_at rz 1 rfl;have zc2:=Row.cell_at rz 2 rfl;have zf0:=frozen_of_row _ _ 0 _ _ rz.2;have zf1:=frozen_of_row _ _ 1 _ _ rz.2;have zf2:=frozen_of_row _ _ 2 _ _ rz.2;have zs:=rz.1;have hc0:=Row.cell_at rh 0 rfl;have hc1:=Row.cell_at rh 1 rfl;have hc2:=Row.cell_at rh 2 rfl;have qc0:=Row.cell_at rq 0 rfl;have qc1:=Row.cell_at rq 1 rfl;have qc2:=Row.cell_at rq 2 rfl;have qc3:=Row.cell_at rq 3 rfl;have qc4:=Row.cell_at rq 4 rfl)
     have sB:=hB.size
     refine wp_cut (fun X=>Below w.heap.size w X∧n0≤X.heap.size∧X.ownsRow n0 32 5 (.slice p' (k+1) c') (k+1) (pCells (l.take k) ++ pC a)∧Row X w.heap.size (.cells #[.string (S r.num),.string (S (r.den:Int)),.slice (some ⟨g,0,none⟩) m c] 26)∧Row X (w.heap.size+1) (.cells #[.int .i64 (a.t:Int),.string (S a.iv.lo.num),.string (S (a.iv.lo.den:Int)),.string (S a.iv.hi.num),.string (S (a.iv.hi.den:Int))] 32)∧Row X (w.heap.size+1+1) (.cells #[.string ⟨#[]⟩,.string ⟨#[]⟩,.slice none 0 0] 26)∧Row X zb (.cells #[.string (S r.num),.string (S (r.den:Int)),.slice p' (k+1) c'] 26)) ⟨BW,(by first | omega | (simp;omega)),OW,RWh,RWh,RWh,rz.set_same rfl⟩ ?_
     clear hB hsz hown rh rq ro rz sB zc0 zc1 zc2 zf0 zf1 zf2 zs hc0 hc1 hc2 qc0 qc1 qc2 qc3 qc4
     rintro Y5 ⟨hB,hsz,hown,rh,rq,ro,rz⟩
     skip
     skip
     skip
     skip
     have sh:=RF3 rh
     have sq:=RF5 rq
     have so:=RFz3 ro
     have sz:=RFz3 rz
     have sh:=RF3 rh
     have sq:=RF5 rq
     have so:=RFz3 ro
     have sz:=RFz3 rz
     go_wp2_with fail
     refine wp_region_items3 6 [.val (.pointer (some ⟨zb,2,none⟩)),.val (.slice p' (k+1) c'),.val (.pointer (some ⟨w.heap.size,2,none⟩)),.val (.slice (some ⟨g,0,none⟩) m c),.val (.int .i64 (k:Int)),.val (.slice (some ⟨g,k * 5,none⟩) (m - k) (c - k))] [] (by kernel_rfl) (by kernel_rfl) rfl trivial (allItems.cons qi0 (allItems.cons (qi1 fun X h=>RFz3 (Row.below rz h)) (allItems.cons qi0 (allItems.cons (qi1 fun X h=>RF3 (Row.below rh h)) (allItems.cons qi0 (allItems.cons (qif hfx) trivial)))))) ?_
     rintro W h1
     clear sh
     clear sq
     clear so
     clear sz
     replace hB:=hB.trans (h1.mono hB.size)
     replace rh:=Row.below rh h1
     replace rq:=Row.below rq h1
     replace ro:=Row.below ro h1
     replace rz:=Row.below rz h1
     replace hsz:=le_below hsz h1
     replace hown:=own_later hown h1
     clear h1
     have sh:=RF3 rh
     have sq:=RF5 rq
     have so:=RFz3 ro
     have sz:=RFz3 rz
     simp only [setItems,List.setIfInBounds_toArray,List.set_cons_succ,List.set_cons_zero,List.take_succ_cons,List.take_zero,List.drop_succ_cons,List.drop_zero]
     intro _
     clear sh
     clear sq
     clear so
     clear sz
     go_upto_region 10 with (at_builtin;refine wpList_append_reads _ rfl (.tmp 49) (.tmp 53) 24 rfl n0 32 i0 (.agg #[.int .i64 0,.string ⟨#[]⟩,.string ⟨#[]⟩,.string ⟨#[]⟩,.string ⟨#[]⟩]) 5 72 Tryz.underlying24 hi hz0 hz1 hz2 rfl (by decide) (.slice p' (k+1) c') (k+1) (pCells (l.take k) ++ pC a) rfl (hown) (g+1) (some ⟨g,k * 5,none⟩) (m - k) (c - k) (pCells (l.drop k)) rfl ((by have:=reads_drop (c:=0) (Row.below HR.out hB) HX.out hkl;rwa [HM.out] at this)) (pCells_one _) (by unfold maxLen;omega) (by omega) (by first | omega | (simp;omega)) ?_;intro v' W9 hown' hgrow';(try rw [HINS.out] at hown');(try rw [show k+1+(m - k)=m+1 by omega] at hown');obtain ⟨p',c',rfl⟩:=own_slice hown';replace rh:=own_row_ne (hown) hgrow' (rh) (by omega);replace rq:=own_row_ne (hown) hgrow' (rq) (by omega);replace ro:=own_row_ne (hown) hgrow' (ro) (by omega);replace rz:=own_row_ne (hown) hgrow' (rz) (by omega);replace hB:=Below.grown (hB) hgrow' (by first | omega | (simp;omega)) (fun k hk=>by have:=(World.ownsRow.lt hown k hk).1;omega);replace hsz:n0≤W9.heap.size:=Nat.le_trans (by first | omega | (simp;omega)) hgrow'.size;replace hown:=hown';clear hown' hgrow';have zc0:=Row.cell_at rz 0 rfl;have zc1:=Row.cell_at rz 1 rfl;have zc2:=Row.cell_at rz 2 rfl;have zf0:=frozen_of_row _ _ 0 _ _ rz.2;have zf1:=frozen_of_row _ _ 1 _ _ rz.2;have zf2:=frozen_of_row _ _ 2 _ _ rz.2;have zs:=rz.1;have hc0:=Row.cell_at rh 0 rfl;have hc1:=Row.cell_at rh 1 rfl;have hc2:=Row.cell_at rh 2 rfl;have qc0:=Row.cell_at rq 0 rfl;have qc1:=Row.cell_at rq 1 rfl;have qc2:=Row.cell_at rq 2 rfl;have qc3:=Row.cell_at rq 3 rfl;have qc4:=Row.cell_at rq 4 rfl)
     have sB:=hB.size
     refine wp_cut (fun X=>Below w.heap.size w X∧n0≤X.heap.size∧X.ownsRow n0 32 5 (.slice p' (m+1) c') (m+1) (pCells (ins l a))∧Row X w.heap.size (.cells #[.string (S r.num),.string (S (r.den:Int)),.slice (some ⟨g,0,none⟩) m c] 26)∧Row X (w.heap.size+1) (.cells #[.int .i64 (a.t:Int),.string (S a.iv.lo.num),.string (S (a.iv.lo.den:Int)),.string (S a.iv.hi.num),.string (S (a.iv.hi.den:Int))] 32)∧Row X (w.heap.size+1+1) (.cells #[.string ⟨#[]⟩,.string ⟨#[]⟩,.slice none 0 0] 26)∧Row X zb (.cells #[.string (S r.num),.string (S (r.den:Int)),.slice p' (m+1) c'] 26)) ⟨BW,(by first | omega | (simp;omega)),OW,RWh,RWh,RWh,rz.set_same rfl⟩ ?_
     clear hB hsz hown rh rq ro rz sB zc0 zc1 zc2 zf0 zf1 zf2 zs hc0 hc1 hc2 qc0 qc1 qc2 qc3 qc4
     rintro Y6 ⟨hB,hsz,hown,rh,rq,ro,rz⟩
     skip
     skip
     skip
     skip
     have sh:=RF3 rh
     have sq:=RF5 rq
     have so:=RFz3 ro
     have sz:=RFz3 rz
     clear rh
     clear sh
     skip
     clear rq
     clear sq
     skip
     go_wp2_with fail
     refine (MV2 _ _ _ (own_patR hown HIL.out)).mono ?_
     rintro e W7 ⟨rfl,h1⟩
     clear so
     clear sz
     replace hB:=hB.trans (h1.mono hB.size)
     replace ro:=Row.below ro h1
     replace rz:=Row.below rz h1
     replace hsz:=le_below hsz h1
     replace hown:=own_later hown h1
     clear h1
     have so:=RFz3 ro
     have sz:=RFz3 rz
     go_wp2_with fail
     have sB:=hB.size
     refine post_cut (fun X=>Below w.heap.size w X∧Row X (w.heap.size+1+1) (.cells #[.string (S r.num),.string (S (r.den:Int)),.slice p' (m+1) c'] 26)∧X.ownsRow w.heap.size 32 5 (.slice p' (m+1) c') (m+1) (pCells (ins l a))) ⟨BW,RWh,own_set3 (own_at hown (by omega)) ro (by decide)⟩ ?_
     clear hB ro hown
     rintro X ⟨hB,ro,hown⟩
     have e0:=Row.cell_at ro 0 rfl
     have e1:=Row.cell_at ro 1 rfl
     have e2:=Row.cell_at ro 2 rfl
     refine bodyPost_ret (v := .tuple #[.agg #[.string (S r.num),.string (S (r.den:Int)),.slice p' (m+1) c'],.int .i64 0]) ?res rfl ⟨p',c',hown,rfl,hB⟩
     case res=>simp [results,Tryz.results19, go_sem,e0,e1,e2]
    ·replace hfx:=And.intro hfx (show c=k by omega)
     have HFX:=Lib.hid hfx
     clear hfx
     have hsz:n0≤V3.heap.size:=by omega
     go_wp2_with fail
     refine wp_region_items3 6 [.val (.pointer (some ⟨zb,2,none⟩)),.val (.slice none 0 0),.val (.pointer (some ⟨w.heap.size,2,none⟩)),.val (.slice (some ⟨g,0,none⟩) m c),.val (.int .i64 (k:Int)),.val (.slice (some ⟨g,0,none⟩) k c)] [] (by kernel_rfl) (by kernel_rfl) rfl trivial (allItems.cons qi0 (allItems.cons (qi1 fun X h=>RFz3 (Row.below rz h)) (allItems.cons qi0 (allItems.cons (qi1 fun X h=>RF3 (Row.below rh h)) (allItems.cons qi0 (allItems.cons (qif HFX.out) trivial)))))) ?_
     rintro W h1
     clear sh
     clear sq
     clear so
     clear sz
     replace hB:=hB.trans (h1.mono hB.size)
     replace rh:=Row.below rh h1
     replace rq:=Row.below rq h1
     replace ro:=Row.below ro h1
     replace rz:=Row.below rz h1
     replace hsz:=le_below hsz h1
     clear h1
     have sh:=RF3 rh
     have sq:=RF5 rq
     have so:=RFz3 ro
     skip
     have sz:=RFz3 rz
     simp only [setItems,List.setIfInBounds_toArray,List.set_cons_succ,List.set_cons_zero,List.take_succ_cons,List.take_zero,List.drop_succ_cons,List.drop_zero]
     intro _
     have hown:W.ownsRow n0 32 5 (.slice none 0 0) 0 []:=⟨rfl,.inl ⟨rfl,rfl⟩⟩
     clear sh
     clear sq
     clear so
     clear sz
     go_upto_region 8 with (at_builtin;refine wpList_append_reads _ rfl (.tmp 35) (.tmp 39) 24 rfl n0 32 i0 (.agg #[.int .i64 0,.string ⟨#[]⟩,.string ⟨#[]⟩,.string ⟨#[]⟩,.string ⟨#[]⟩]) 5 72 Tryz.underlying24 hi hz0 hz1 hz2 rfl (by decide) (.slice none 0 0) 0 ([]) rfl (hown) (g+1) (some ⟨g,0,none⟩) k c (pCells (l.take k)) rfl (reads_take (c:=0) (Row.below HR.out hB) HX.out hkl) (pCells_one _) (by unfold maxLen;omega) (by omega) (by first | omega | (simp;omega)) ?_;intro v' W7 hown' hgrow';(try simp only [Nat.zero_add,List.nil_append] at hown');obtain ⟨p',c',rfl⟩:=own_slice hown';replace rh:=own_row_ne (hown) hgrow' (rh) (by omega);replace rq:=own_row_ne (hown) hgrow' (rq) (by omega);replace ro:=own_row_ne (hown) hgrow' (ro) (by omega);replace rz:=own_row_ne (hown) hgrow' (rz) (by omega);replace hB:=Below.grown (hB) hgrow' (by first | omega | (simp;omega)) (fun k hk=>by have:=(World.ownsRow.lt hown k hk).1;omega);replace hsz:n0≤W7.heap.size:=Nat.le_trans (by first | omega | (simp;omega)) hgrow'.size;replace hown:=hown';clear hown' hgrow';have zc0:=Row.cell_at rz 0 rfl;have zc1:=Row.cell_at rz 1 rfl;have zc2:=Row.cell_at rz 2 rfl;have zf0:=frozen_of_row _ _ 0 _ _ rz.2;have zf1:=frozen_of_row _ _ 1 _ _ rz.2;have zf2:=frozen_of_row _ _ 2 _ _ rz.2;have zs:=rz.1;have hc0:=Row.cell_at rh 0 rfl;have hc1:=Row.cell_at rh 1 rfl;have hc2:=Row.cell_at rh 2 rfl;have qc0:=Row.cell_at rq 0 rfl;have qc1:=Row.cell_at rq 1 rfl;have qc2:=Row.cell_at rq 2 rfl;have qc3:=Row.cell_at rq 3 rfl;have qc4:=Row.cell_at rq 4 rfl)
     have sB:=hB.size
     refine wp_cut (fun X=>Below w.heap.size w X∧n0≤X.heap.size∧X.ownsRow n0 32 5 (.slice p' k c') k (pCells (l.take k))∧Row X w.heap.size (.cells #[.string (S r.num),.string (S (r.den:Int)),.slice (some ⟨g,0,none⟩) m c] 26)∧Row X (w.heap.size+1) (.cells #[.int .i64 (a.t:Int),.string (S a.iv.lo.num),.string (S (a.iv.lo.den:Int)),.string (S a.iv.hi.num),.string (S (a.iv.hi.den:Int))] 32)∧Row X (w.heap.size+1+1) (.cells #[.string ⟨#[]⟩,.string ⟨#[]⟩,.slice none 0 0] 26)∧Row X zb (.cells #[.string (S r.num),.string (S (r.den:Int)),.slice p' k c'] 26)) ⟨BW,(by first | omega | (simp;omega)),OW,RWh,RWh,RWh,rz.set_same rfl⟩ ?_
     clear hB hsz hown rh rq ro rz sB zc0 zc1 zc2 zf0 zf1 zf2 zs hc0 hc1 hc2 qc0 qc1 qc2 qc3 qc4
     rintro Y4 ⟨hB,hsz,hown,rh,rq,ro,rz⟩
     skip
     skip
     skip
     skip
     have sh:=RF3 rh
     have sq:=RF5 rq
     have so:=RFz3 ro
     have sz:=RFz3 rz
     clear sh
     clear sq
     clear so
     clear sz
     have zc0:=Row.cell_at rz 0 rfl;have zc1:=Row.cell_at rz 1 rfl;have zc2:=Row.cell_at rz 2 rfl;have qc0:=Row.cell_at rq 0 rfl;have qc1:=Row.cell_at rq 1 rfl;have qc2:=Row.cell_at rq 2 rfl;have qc3:=Row.cell_at rq 3 rfl;have qc4:=Row.cell_at rq 4 rfl;have zs:=rz.1;have qs:=rq.1
     have rdn:∀ X:World,Reads (X.alloc (.cells #[.int .i64 (a.t:Int),.string (S a.iv.lo.num),.string (S (a.iv.lo.den:Int)),.string (S a.iv.hi.num),.string (S (a.iv.hi.den:Int))] 32)) (X.heap.size+1) 5 (some ⟨X.heap.size,0,none⟩) 1 (pC a):=fun X=>reads_new X a
     go_upto_region 9 with (at_builtin;refine wpList_append_reads _ rfl (.tmp 43) (.tmp 45) 24 rfl n0 32 i0 (.agg #[.int .i64 0,.string ⟨#[]⟩,.string ⟨#[]⟩,.string ⟨#[]⟩,.string ⟨#[]⟩]) 5 72 Tryz.underlying24 hi hz0 hz1 hz2 rfl (by decide) (.slice p' k c') k (pCells (l.take k)) rfl (hown.alloc _) (Y4.heap.size+1) (some ⟨Y4.heap.size,0,none⟩) 1 1 (pC a) rfl (rdn _) (by intro u hu;exact pCells_one [a] u (by simpa [pCells] using hu)) (by unfold maxLen;omega) (by omega) (by first | omega | (simp;omega)) ?_;intro v' W8 hown' hgrow';clear zc0 zc1 zc2 qc0 qc1 qc2 qc3 qc4 zs qs;(try simp only [Nat.zero_add,List.nil_append] at hown');obtain ⟨p',c',rfl⟩:=own_slice hown';replace rh:=own_row_ne (hown.alloc _) hgrow' (rh.alloc _) (by omega);replace rq:=own_row_ne (hown.alloc _) hgrow' (rq.alloc _) (by omega);replace ro:=own_row_ne (hown.alloc _) hgrow' (ro.alloc _) (by omega);replace rz:=own_row_ne (hown.alloc _) hgrow' (rz.alloc _) (by omega);replace hB:=Below.grown (hB.alloc (by omega) _) hgrow' (by first | omega | (simp;omega)) (fun k hk=>by have:=(World.ownsRow.lt hown k hk).1;omega);replace hsz:n0≤W8.heap.size:=Nat.le_trans (by first | omega | (simp;omega)) hgrow'.size;replace hown:=hown';clear hown' hgrow';have zc0:=Row.cell_at rz 0 rfl;have zc1:=Row.cell_at rz 1 rfl;have zc2:=Row.cell_at rz 2 rfl;have zf0:=frozen_of_row _ _ 0 _ _ rz.2;have zf1:=frozen_of_row _ _ 1 _ _ rz.2;have zf2:=frozen_of_row _ _ 2 _ _ rz.2;have zs:=rz.1;have hc0:=Row.cell_at rh 0 rfl;have hc1:=Row.cell_at rh 1 rfl;have hc2:=Row.cell_at rh 2 rfl;have qc0:=Row.cell_at rq 0 rfl;have qc1:=Row.cell_at rq 1 rfl;have qc2:=Row.cell_at rq 2 rfl;have qc3:=Row.cell_at rq 3 rfl;have qc4:=Row.cell_at rq 4 rfl)
     have sB:=hB.size
     refine wp_cut (fun X=>Below w.heap.size w X∧n0≤X.heap.size∧X.ownsRow n0 32 5 (.slice p' (k+1) c') (k+1) (pCells (l.take k) ++ pC a)∧Row X w.heap.size (.cells #[.string (S r.num),.string (S (r.den:Int)),.slice (some ⟨g,0,none⟩) m c] 26)∧Row X (w.heap.size+1) (.cells #[.int .i64 (a.t:Int),.string (S a.iv.lo.num),.string (S (a.iv.lo.den:Int)),.string (S a.iv.hi.num),.string (S (a.iv.hi.den:Int))] 32)∧Row X (w.heap.size+1+1) (.cells #[.string ⟨#[]⟩,.string ⟨#[]⟩,.slice none 0 0] 26)∧Row X zb (.cells #[.string (S r.num),.string (S (r.den:Int)),.slice p' (k+1) c'] 26)) ⟨BW,(by first | omega | (simp;omega)),OW,RWh,RWh,RWh,rz.set_same rfl⟩ ?_
     clear hB hsz hown rh rq ro rz sB zc0 zc1 zc2 zf0 zf1 zf2 zs hc0 hc1 hc2 qc0 qc1 qc2 qc3 qc4
     rintro Y5 ⟨hB,hsz,hown,rh,rq,ro,rz⟩
     skip
     skip
     skip
     skip
     have sh:=RF3 rh
     have sq:=RF5 rq
     have so:=RFz3 ro
     have sz:=RFz3 rz
     have sh:=RF3 rh
     have sq:=RF5 rq
     have so:=RFz3 ro
     have sz:=RFz3 rz
     go_wp2_with fail
     refine wp_region_items3 6 [.val (.pointer (some ⟨zb,2,none⟩)),.val (.slice p' (k+1) c'),.val (.pointer (some ⟨w.heap.size,2,none⟩)),.val (.slice (some ⟨g,0,none⟩) m c),.val (.int .i64 (k:Int)),.val (.slice (some ⟨g,0,none⟩) (m - k) (c - k))] [] (by kernel_rfl) (by kernel_rfl) rfl trivial (allItems.cons qi0 (allItems.cons (qi1 fun X h=>RFz3 (Row.below rz h)) (allItems.cons qi0 (allItems.cons (qi1 fun X h=>RF3 (Row.below rh h)) (allItems.cons qi0 (allItems.cons (qif HFX.out) trivial)))))) ?_
     rintro W h1
     clear sh
     clear sq
     clear so
     clear sz
     replace hB:=hB.trans (h1.mono hB.size)
     replace rh:=Row.below rh h1
     replace rq:=Row.below rq h1
     replace ro:=Row.below ro h1
     replace rz:=Row.below rz h1
     replace hsz:=le_below hsz h1
     replace hown:=own_later hown h1
     clear h1
     have sh:=RF3 rh
     have sq:=RF5 rq
     have so:=RFz3 ro
     have sz:=RFz3 rz
     simp only [setItems,List.setIfInBounds_toArray,List.set_cons_succ,List.set_cons_zero,List.take_succ_cons,List.take_zero,List.drop_succ_cons,List.drop_zero]
     intro _
     clear sh
     clear sq
     clear so
     clear sz
     go_upto_region 10 with (at_builtin;refine wpList_append_reads _ rfl (.tmp 49) (.tmp 53) 24 rfl n0 32 i0 (.agg #[.int .i64 0,.string ⟨#[]⟩,.string ⟨#[]⟩,.string ⟨#[]⟩,.string ⟨#[]⟩]) 5 72 Tryz.underlying24 hi hz0 hz1 hz2 rfl (by decide) (.slice p' (k+1) c') (k+1) (pCells (l.take k) ++ pC a) rfl (hown) (g+1) (some ⟨g,0,none⟩) (m - k) (c - k) (pCells (l.drop k)) rfl ((by rw [List.drop_eq_nil_of_le (by have:=HM.out;omega),show m - k=0 by omega];exact Reads.nil)) (pCells_one _) (by unfold maxLen;omega) (by omega) (by first | omega | (simp;omega)) ?_;intro v' W9 hown' hgrow';(try rw [HINS.out] at hown');(try rw [show k+1+(m - k)=m+1 by omega] at hown');obtain ⟨p',c',rfl⟩:=own_slice hown';replace rh:=own_row_ne (hown) hgrow' (rh) (by omega);replace rq:=own_row_ne (hown) hgrow' (rq) (by omega);replace ro:=own_row_ne (hown) hgrow' (ro) (by omega);replace rz:=own_row_ne (hown) hgrow' (rz) (by omega);replace hB:=Below.grown (hB) hgrow' (by first | omega | (simp;omega)) (fun k hk=>by have:=(World.ownsRow.lt hown k hk).1;omega);replace hsz:n0≤W9.heap.size:=Nat.le_trans (by first | omega | (simp;omega)) hgrow'.size;replace hown:=hown';clear hown' hgrow';have zc0:=Row.cell_at rz 0 rfl;have zc1:=Row.cell_at rz 1 rfl;have zc2:=Row.cell_at rz 2 rfl;have zf0:=frozen_of_row _ _ 0 _ _ rz.2;have zf1:=frozen_of_row _ _ 1 _ _ rz.2;have zf2:=frozen_of_row _ _ 2 _ _ rz.2;have zs:=rz.1;have hc0:=Row.cell_at rh 0 rfl;have hc1:=Row.cell_at rh 1 rfl;have hc2:=Row.cell_at rh 2 rfl;have qc0:=Row.cell_at rq 0 rfl;have qc1:=Row.cell_at rq 1 rfl;have qc2:=Row.cell_at rq 2 rfl;have qc3:=Row.cell_at rq 3 rfl;have qc4:=Row.cell_at rq 4 rfl)
     have sB:=hB.size
     refine wp_cut (fun X=>Below w.heap.size w X∧n0≤X.heap.size∧X.ownsRow n0 32 5 (.slice p' (m+1) c') (m+1) (pCells (ins l a))∧Row X w.heap.size (.cells #[.string (S r.num),.string (S (r.den:Int)),.slice (some ⟨g,0,none⟩) m c] 26)∧Row X (w.heap.size+1) (.cells #[.int .i64 (a.t:Int),.string (S a.iv.lo.num),.string (S (a.iv.lo.den:Int)),.string (S a.iv.hi.num),.string (S (a.iv.hi.den:Int))] 32)∧Row X (w.heap.size+1+1) (.cells #[.string ⟨#[]⟩,.string ⟨#[]⟩,.slice none 0 0] 26)∧Row X zb (.cells #[.string (S r.num),.string (S (r.den:Int)),.slice p' (m+1) c'] 26)) ⟨BW,(by first | omega | (simp;omega)),OW,RWh,RWh,RWh,rz.set_same rfl⟩ ?_
     clear hB hsz hown rh rq ro rz sB zc0 zc1 zc2 zf0 zf1 zf2 zs hc0 hc1 hc2 qc0 qc1 qc2 qc3 qc4
     rintro Y6 ⟨hB,hsz,hown,rh,rq,ro,rz⟩
     skip
     skip
     skip
     skip
     have sh:=RF3 rh
     have sq:=RF5 rq
     have so:=RFz3 ro
     have sz:=RFz3 rz
     clear rh
     clear sh
     skip
     clear rq
     clear sq
     skip
     go_wp2_with fail
     refine (MV2 _ _ _ (own_patR hown HIL.out)).mono ?_
     rintro e W7 ⟨rfl,h1⟩
     clear so
     clear sz
     replace hB:=hB.trans (h1.mono hB.size)
     replace ro:=Row.below ro h1
     replace rz:=Row.below rz h1
     replace hsz:=le_below hsz h1
     replace hown:=own_later hown h1
     clear h1
     have so:=RFz3 ro
     have sz:=RFz3 rz
     go_wp2_with fail
     have sB:=hB.size
     refine post_cut (fun X=>Below w.heap.size w X∧Row X (w.heap.size+1+1) (.cells #[.string (S r.num),.string (S (r.den:Int)),.slice p' (m+1) c'] 26)∧X.ownsRow w.heap.size 32 5 (.slice p' (m+1) c') (m+1) (pCells (ins l a))) ⟨BW,RWh,own_set3 (own_at hown (by omega)) ro (by decide)⟩ ?_
     clear hB ro hown
     rintro X ⟨hB,ro,hown⟩
     have e0:=Row.cell_at ro 0 rfl
     have e1:=Row.cell_at ro 1 rfl
     have e2:=Row.cell_at ro 2 rfl
     refine bodyPost_ret (v := .tuple #[.agg #[.string (S r.num),.string (S (r.den:Int)),.slice p' (m+1) c'],.int .i64 0]) ?res rfl ⟨p',c',hown,rfl,hB⟩
     case res=>simp [results,Tryz.results19, go_sem,e0,e1,e2]
theorem r12add_none {r:Rat} {a:Pt} (ho:Hist.Ok ⟨r,[]⟩) (hoi:Hist.Ok ⟨r,ins [] a⟩) (c:Nat) (w:World) :
  Calls Tryz.prog 19 #[.agg #[.string (S r.num),.string (S (r.den:Int)),.slice none 0 c],.agg #[.int .i64 (a.t:Int),.string (S a.iv.lo.num),.string (S (a.iv.lo.den:Int)),.string (S a.iv.hi.num),.string (S (a.iv.hi.den:Int))]] w (AddOk r (ins [] a) w):=by
 have hB:Below w.heap.size w w:=Below.refl _ _
 obtain ⟨i0,hi,hz0,hz1,hz2⟩:=info_parts pointInfo
 have hfew:=ho.few
 have hs:=ho.sorted
 have MV:=fun W (hp:PAt W none [])=>r12valid ho none 0 c rfl W hp
 have hp:PAt w none [] := .inl ⟨rfl,.inl rfl⟩
 have HP:=Lib.hid hp
 have hlen:(ins [] a).length=(0+1):=by rw [ins_length];rfl
 have MV2:=fun q d W (hp:PAt W q (ins [] a))=>r12valid hoi q (0+1) d hlen W hp
 unfold BoolOk HV at MV MV2
 unfold AddOk
 rw [hlen]
 simp only at MV MV2
 have HIL:=Lib.hid hlen
 clear ho hoi hlen hp
 go_enter Tryz.func19, Tryz.ntmps19
 go_wp2_with fail
 have d0_o:w.heap.size≤w.heap.size+1+1:=by have:=hB.size;omega
 have sB:=hB.size
 refine world_cut (fun X=>Below w.heap.size w X∧Row X w.heap.size (.cells #[.string (S r.num),.string (S (r.den:Int)),.slice none 0 c] 26)∧Row X (w.heap.size+1) (.cells #[.int .i64 (a.t:Int),.string (S a.iv.lo.num),.string (S (a.iv.lo.den:Int)),.string (S a.iv.hi.num),.string (S (a.iv.hi.den:Int))] 32)∧Row X (w.heap.size+1+1) (.cells #[.string ⟨#[]⟩,.string ⟨#[]⟩,.slice none 0 0] 26)) ⟨BW,RWh,RWh,RWh⟩ ?_
 clear hB sB
 rintro V1 ⟨hB,rh,rq,ro⟩
 have sh:=RF3 rh
 have sq:=RF5 rq
 have so:=RFz3 ro
 refine (MV _ (HP.out.below hB)).mono ?_
 rintro e W2 ⟨rfl,h1⟩
 clear sh
 clear sq
 clear so
 replace hB:=hB.trans (h1.mono hB.size)
 replace rh:=Row.below rh h1
 replace rq:=Row.below rq h1
 replace ro:=Row.below ro h1
 clear h1
 have sh:=RF3 rh
 have sq:=RF5 rq
 have so:=RFz3 ro
 go_wp2_with fail
 clear sh
 clear sq
 clear so
 go_loopw [6] (fun v6 wr=>v6 = .int .i64 0∧Below w.heap.size w wr∧Row wr w.heap.size (.cells #[.string (S r.num),.string (S (r.den:Int)),.slice none 0 c] 26)∧Row wr (w.heap.size+1) (.cells #[.int .i64 (a.t:Int),.string (S a.iv.lo.num),.string (S (a.iv.lo.den:Int)),.string (S a.iv.hi.num),.string (S (a.iv.hi.den:Int))] 32)∧Row wr (w.heap.size+1+1) (.cells #[.string ⟨#[]⟩,.string ⟨#[]⟩,.slice none 0 0] 26)) (fun v6 _=>0)
 case atStart=>exact ⟨rfl,hB,rh,rq,ro⟩
 case round =>
  clear hB rh rq ro
  obtain ⟨rfl,hB,rh,rq,ro⟩:=hrel
  have sh:=RF3 rh
  have sq:=RF5 rq
  have so:=RFz3 ro
  go_wp2_with fail
  refine wp_region_vals [.int .i64 0,.bool false,.bool false,undef,undef,undef,undef,undef,undef,undef,undef,undef,undef,.bool false] (by kernel_rfl) (by kernel_rfl) rfl (allVals.cons qv0 (allVals.cons qv0 (allVals.cons qv0 (allVals.cons qv0 (allVals.cons qv0 (allVals.cons qv0 (allVals.cons qv0 (allVals.cons qv0 (allVals.cons qv0 (allVals.cons qv0 (allVals.cons qv0 (allVals.cons qv0 (allVals.cons qv0 (allVals.cons qv0 trivial)))))))))))))) ?_
  rintro W h1
  clear sh
  clear sq
  clear so
  replace hB:=hB.trans (h1.mono hB.size)
  replace rh:=Row.below rh h1
  replace rq:=Row.below rq h1
  replace ro:=Row.below ro h1
  clear h1
  have sh:=RF3 rh
  have sq:=RF5 rq
  have so:=RFz3 ro
  simp only [setVals,List.setIfInBounds_toArray,List.set_cons_succ,List.set_cons_zero]
  have hins:pCells ([]:List Pt) ++ pC a ++ pCells ([]:List Pt)=pCells (ins [] a):=by unfold ins upTo;simp [pCells]
  have HINS:=Lib.hid hins
  clear hins
  go_upto_region 7 with fail
  have dh_z:w.heap.size<W.heap.size:=by omega
  have dq_z:w.heap.size+1<W.heap.size:=by omega
  have do_z:w.heap.size+1+1<W.heap.size:=by omega
  have d0_z:w.heap.size≤W.heap.size:=by have:=hB.size;omega
  have sB:=hB.size
  refine wp_cut (fun X=>Below w.heap.size w X∧Row X w.heap.size (.cells #[.string (S r.num),.string (S (r.den:Int)),.slice none 0 c] 26)∧Row X (w.heap.size+1) (.cells #[.int .i64 (a.t:Int),.string (S a.iv.lo.num),.string (S (a.iv.lo.den:Int)),.string (S a.iv.hi.num),.string (S (a.iv.hi.den:Int))] 32)∧Row X (w.heap.size+1+1) (.cells #[.string ⟨#[]⟩,.string ⟨#[]⟩,.slice none 0 0] 26)∧Row X W.heap.size (.cells #[.string (S r.num),.string (S (r.den:Int)),.slice none 0 0] 26)) ⟨BW,RWh,RWh,RWh,RWh⟩ ?_
  clear rh
  clear sh
  clear rq
  clear sq
  clear ro
  clear so
  clear hB sB
  rintro V3 ⟨hB,rh,rq,ro,rz⟩
  have sh:=RF3 rh
  have sq:=RF5 rq
  have so:=RFz3 ro
  have sz:=RFz3 rz
  generalize hzb:W.heap.size=zb at *
  clear hzb
  have hzz:=rz.1
  have hoo:=ro.1
  have hqq:=rq.1
  obtain ⟨n0,hn0⟩:∃ n0,n0=V3.heap.size:=⟨_,rfl⟩
  rw [← hn0] at hzz hoo hqq
  have hsz:n0≤V3.heap.size:=by omega
  go_wp2_with fail
  refine wp_region_items3 6 [.val (.pointer (some ⟨zb,2,none⟩)),.val (.slice none 0 0),.val (.pointer (some ⟨w.heap.size,2,none⟩)),.val (.slice none 0 c),.val (.int .i64 0),.val (.slice none 0 c)] [] (by kernel_rfl) (by kernel_rfl) rfl trivial (allItems.cons qi0 (allItems.cons (qi1 fun X h=>RFz3 (Row.below rz h)) (allItems.cons qi0 (allItems.cons (qi1 fun X h=>RF3 (Row.below rh h)) (allItems.cons qi0 (allItems.cons qi0 trivial)))))) ?_
  rintro W h1
  clear sh
  clear sq
  clear so
  clear sz
  replace hB:=hB.trans (h1.mono hB.size)
  replace rh:=Row.below rh h1
  replace rq:=Row.below rq h1
  replace ro:=Row.below ro h1
  replace rz:=Row.below rz h1
  replace hsz:=le_below hsz h1
  clear h1
  have sh:=RF3 rh
  have sq:=RF5 rq
  have so:=RFz3 ro
  skip
  have sz:=RFz3 rz
  simp only [setItems,List.setIfInBounds_toArray,List.set_cons_succ,List.set_cons_zero,List.take_succ_cons,List.take_zero,List.drop_succ_cons,List.drop_zero]
  intro _
  have hown:W.ownsRow n0 32 5 (.slice none 0 0) 0 []:=⟨rfl,.inl ⟨rfl,rfl⟩⟩
  clear sh
  clear sq
  clear so
  clear sz
  go_upto_region 8 with (at_builtin;refine wpList_append_reads _ rfl (.tmp 35) (.tmp 39) 24 rfl n0 32 i0 (.agg #[.int .i64 0,.string ⟨#[]⟩,.string ⟨#[]⟩,.string ⟨#[]⟩,.string ⟨#[]⟩]) 5 72 Tryz.underlying24 hi hz0 hz1 hz2 rfl (by decide) (.slice none 0 0) 0 ([]) rfl (hown) 0 none 0 c (pCells []) rfl (Reads.nil) (pCells_one _) (by unfold maxLen;omega) (by omega) (by first | omega | (simp;omega)) ?_;intro v' W7 hown' hgrow';(try simp only [Nat.zero_add,List.nil_append] at hown');obtain ⟨p',c',rfl⟩:=own_slice hown';replace rh:=own_row_ne (hown) hgrow' (rh) (by omega);replace rq:=own_row_ne (hown) hgrow' (rq) (by omega);replace ro:=own_row_ne (hown) hgrow' (ro) (by omega);replace rz:=own_row_ne (hown) hgrow' (rz) (by omega);replace hB:=Below.grown (hB) hgrow' (by first | omega | (simp;omega)) (fun k hk=>by have:=(World.ownsRow.lt hown k hk).1;omega);replace hsz:n0≤W7.heap.size:=Nat.le_trans (by first | omega | (simp;omega)) hgrow'.size;replace hown:=hown';clear hown' hgrow';have zc0:=Row.cell_at rz 0 rfl;have zc1:=Row.cell_at rz 1 rfl;have zc2:=Row.cell_at rz 2 rfl;have zf0:=frozen_of_row _ _ 0 _ _ rz.2;have zf1:=frozen_of_row _ _ 1 _ _ rz.2;have zf2:=frozen_of_row _ _ 2 _ _ rz.2;have zs:=rz.1;have hc0:=Row.cell_at rh 0 rfl;have hc1:=Row.cell_at rh 1 rfl;have hc2:=Row.cell_at rh 2 rfl;have qc0:=Row.cell_at rq 0 rfl;have qc1:=Row.cell_at rq 1 rfl;have qc2:=Row.cell_at rq 2 rfl;have qc3:=Row.cell_at rq 3 rfl;have qc4:=Row.cell_at rq 4 rfl)
  have sB:=hB.size
  refine wp_cut (fun X=>Below w.heap.size w X∧n0≤X.heap.size∧X.ownsRow n0 32 5 (.slice p' 0 c') 0 (pCells [])∧Row X w.heap.size (.cells #[.string (S r.num),.string (S (r.den:Int)),.slice none 0 c] 26)∧Row X (w.heap.size+1) (.cells #[.int .i64 (a.t:Int),.string (S a.iv.lo.num),.string (S (a.iv.lo.den:Int)),.string (S a.iv.hi.num),.string (S (a.iv.hi.den:Int))] 32)∧Row X (w.heap.size+1+1) (.cells #[.string ⟨#[]⟩,.string ⟨#[]⟩,.slice none 0 0] 26)∧Row X zb (.cells #[.string (S r.num),.string (S (r.den:Int)),.slice p' 0 c'] 26)) ⟨BW,(by first | omega | (simp;omega)),OW,RWh,RWh,RWh,rz.set_same rfl⟩ ?_
  clear hB hsz hown rh rq ro rz sB zc0 zc1 zc2 zf0 zf1 zf2 zs hc0 hc1 hc2 qc0 qc1 qc2 qc3 qc4
  rintro Y4 ⟨hB,hsz,hown,rh,rq,ro,rz⟩
  skip
  skip
  skip
  skip
  have sh:=RF3 rh
  have sq:=RF5 rq
  have so:=RFz3 ro
  have sz:=RFz3 rz
  clear sh
  clear sq
  clear so
  clear sz
  have zc0:=Row.cell_at rz 0 rfl;have zc1:=Row.cell_at rz 1 rfl;have zc2:=Row.cell_at rz 2 rfl;have qc0:=Row.cell_at rq 0 rfl;have qc1:=Row.cell_at rq 1 rfl;have qc2:=Row.cell_at rq 2 rfl;have qc3:=Row.cell_at rq 3 rfl;have qc4:=Row.cell_at rq 4 rfl;have zs:=rz.1;have qs:=rq.1
  have rdn:∀ X:World,Reads (X.alloc (.cells #[.int .i64 (a.t:Int),.string (S a.iv.lo.num),.string (S (a.iv.lo.den:Int)),.string (S a.iv.hi.num),.string (S (a.iv.hi.den:Int))] 32)) (X.heap.size+1) 5 (some ⟨X.heap.size,0,none⟩) 1 (pC a):=fun X=>reads_new X a
  go_upto_region 9 with (at_builtin;refine wpList_append_reads _ rfl (.tmp 43) (.tmp 45) 24 rfl n0 32 i0 (.agg #[.int .i64 0,.string ⟨#[]⟩,.string ⟨#[]⟩,.string ⟨#[]⟩,.string ⟨#[]⟩]) 5 72 Tryz.underlying24 hi hz0 hz1 hz2 rfl (by decide) (.slice p' 0 c') 0 (pCells []) rfl (hown.alloc _) (Y4.heap.size+1) (some ⟨Y4.heap.size,0,none⟩) 1 1 (pC a) rfl (rdn _) (by intro u hu;exact pCells_one [a] u (by simpa [pCells] using hu)) (by unfold maxLen;omega) (by omega) (by first | omega | (simp;omega)) ?_;intro v' W8 hown' hgrow';clear zc0 zc1 zc2 qc0 qc1 qc2 qc3 qc4 zs qs;(try simp only [Nat.zero_add,List.nil_append] at hown');obtain ⟨p',c',rfl⟩:=own_slice hown';replace rh:=own_row_ne (hown.alloc _) hgrow' (rh.alloc _) (by omega);replace rq:=own_row_ne (hown.alloc _) hgrow' (rq.alloc _) (by omega);replace ro:=own_row_ne (hown.alloc _) hgrow' (ro.alloc _) (by omega);replace rz:=own_row_ne (hown.alloc _) hgrow' (rz.alloc _) (by omega);replace hB:=Below.grown (hB.alloc (by omega) _) hgrow' (by first | omega | (simp;omega)) (fun k hk=>by have:=(World.ownsRow.lt hown k hk).1;omega);replace hsz:n0≤W8.heap.size:=Nat.le_trans (by first | omega | (simp;omega)) hgrow'.size;replace hown:=hown';clear hown' hgrow';have zc0:=Row.cell_at rz 0 rfl;have zc1:=Row.cell_at rz 1 rfl;have zc2:=Row.cell_at rz 2 rfl;have zf0:=frozen_of_row _ _ 0 _ _ rz.2;have zf1:=frozen_of_row _ _ 1 _ _ rz.2;have zf2:=frozen_of_row _ _ 2 _ _ rz.2;have zs:=rz.1;have hc0:=Row.cell_at rh 0 rfl;have hc1:=Row.cell_at rh 1 rfl;have hc2:=Row.cell_at rh 2 rfl;have qc0:=Row.cell_at rq 0 rfl;have qc1:=Row.cell_at rq 1 rfl;have qc2:=Row.cell_at rq 2 rfl;have qc3:=Row.cell_at rq 3 rfl;have qc4:=Row.cell_at rq 4 rfl)
  have sB:=hB.size
  refine wp_cut (fun X=>Below w.heap.size w X∧n0≤X.heap.size∧X.ownsRow n0 32 5 (.slice p' (0+1) c') (0+1) (pCells [] ++ pC a)∧Row X w.heap.size (.cells #[.string (S r.num),.string (S (r.den:Int)),.slice none 0 c] 26)∧Row X (w.heap.size+1) (.cells #[.int .i64 (a.t:Int),.string (S a.iv.lo.num),.string (S (a.iv.lo.den:Int)),.string (S a.iv.hi.num),.string (S (a.iv.hi.den:Int))] 32)∧Row X (w.heap.size+1+1) (.cells #[.string ⟨#[]⟩,.string ⟨#[]⟩,.slice none 0 0] 26)∧Row X zb (.cells #[.string (S r.num),.string (S (r.den:Int)),.slice p' (0+1) c'] 26)) ⟨BW,(by first | omega | (simp;omega)),OW,RWh,RWh,RWh,rz.set_same rfl⟩ ?_
  clear hB hsz hown rh rq ro rz sB zc0 zc1 zc2 zf0 zf1 zf2 zs hc0 hc1 hc2 qc0 qc1 qc2 qc3 qc4
  rintro Y5 ⟨hB,hsz,hown,rh,rq,ro,rz⟩
  skip
  skip
  skip
  skip
  have sh:=RF3 rh
  have sq:=RF5 rq
  have so:=RFz3 ro
  have sz:=RFz3 rz
  have sh:=RF3 rh
  have sq:=RF5 rq
  have so:=RFz3 ro
  have sz:=RFz3 rz
  go_wp2_with fail
  refine wp_region_items3 6 [.val (.pointer (some ⟨zb,2,none⟩)),.val (.slice p' (0+1) c'),.val (.pointer (some ⟨w.heap.size,2,none⟩)),.val (.slice none 0 c),.val (.int .i64 0),.val (.slice none 0 c)] [] (by kernel_rfl) (by kernel_rfl) rfl trivial (allItems.cons qi0 (allItems.cons (qi1 fun X h=>RFz3 (Row.below rz h)) (allItems.cons qi0 (allItems.cons (qi1 fun X h=>RF3 (Row.below rh h)) (allItems.cons qi0 (allItems.cons qi0 trivial)))))) ?_
  rintro W h1
  clear sh
  clear sq
  clear so
  clear sz
  replace hB:=hB.trans (h1.mono hB.size)
  replace rh:=Row.below rh h1
  replace rq:=Row.below rq h1
  replace ro:=Row.below ro h1
  replace rz:=Row.below rz h1
  replace hsz:=le_below hsz h1
  replace hown:=own_later hown h1
  clear h1
  have sh:=RF3 rh
  have sq:=RF5 rq
  have so:=RFz3 ro
  have sz:=RFz3 rz
  simp only [setItems,List.setIfInBounds_toArray,List.set_cons_succ,List.set_cons_zero,List.take_succ_cons,List.take_zero,List.drop_succ_cons,List.drop_zero]
  intro _
  clear sh
  clear sq
  clear so
  clear sz
  go_upto_region 10 with (at_builtin;refine wpList_append_reads _ rfl (.tmp 49) (.tmp 53) 24 rfl n0 32 i0 (.agg #[.int .i64 0,.string ⟨#[]⟩,.string ⟨#[]⟩,.string ⟨#[]⟩,.string ⟨#[]⟩]) 5 72 Tryz.underlying24 hi hz0 hz1 hz2 rfl (by decide) (.slice p' (0+1) c') (0+1) (pCells [] ++ pC a) rfl (hown) 0 none 0 c (pCells []) rfl (Reads.nil) (pCells_one _) (by unfold maxLen;omega) (by omega) (by first | omega | (simp;omega)) ?_;intro v' W9 hown' hgrow';(try rw [HINS.out] at hown');(try rw [show k+1+(m - k)=m+1 by omega] at hown');obtain ⟨p',c',rfl⟩:=own_slice hown';replace rh:=own_row_ne (hown) hgrow' (rh) (by omega);replace rq:=own_row_ne (hown) hgrow' (rq) (by omega);replace ro:=own_row_ne (hown) hgrow' (ro) (by omega);replace rz:=own_row_ne (hown) hgrow' (rz) (by omega);replace hB:=Below.grown (hB) hgrow' (by first | omega | (simp;omega)) (fun k hk=>by have:=(World.ownsRow.lt hown k hk).1;omega);replace hsz:n0≤W9.heap.size:=Nat.le_trans (by first | omega | (simp;omega)) hgrow'.size;replace hown:=hown';clear hown' hgrow';have zc0:=Row.cell_at rz 0 rfl;have zc1:=Row.cell_at rz 1 rfl;have zc2:=Row.cell_at rz 2 rfl;have zf0:=frozen_of_row _ _ 0 _ _ rz.2;have zf1:=frozen_of_row _ _ 1 _ _ rz.2;have zf2:=frozen_of_row _ _ 2 _ _ rz.2;have zs:=rz.1;have hc0:=Row.cell_at rh 0 rfl;have hc1:=Row.cell_at rh 1 rfl;have hc2:=Row.cell_at rh 2 rfl;have qc0:=Row.cell_at rq 0 rfl;have qc1:=Row.cell_at rq 1 rfl;have qc2:=Row.cell_at rq 2 rfl;have qc3:=Row.cell_at rq 3 rfl;have qc4:=Row.cell_at rq 4 rfl)
  have sB:=hB.size
  refine wp_cut (fun X=>Below w.heap.size w X∧n0≤X.heap.size∧X.ownsRow n0 32 5 (.slice p' (0+1) c') (0+1) (pCells (ins [] a))∧Row X w.heap.size (.cells #[.string (S r.num),.string (S (r.den:Int)),.slice none 0 c] 26)∧Row X (w.heap.size+1) (.cells #[.int .i64 (a.t:Int),.string (S a.iv.lo.num),.string (S (a.iv.lo.den:Int)),.string (S a.iv.hi.num),.string (S (a.iv.hi.den:Int))] 32)∧Row X (w.heap.size+1+1) (.cells #[.string ⟨#[]⟩,.string ⟨#[]⟩,.slice none 0 0] 26)∧Row X zb (.cells #[.string (S r.num),.string (S (r.den:Int)),.slice p' (0+1) c'] 26)) ⟨BW,(by first | omega | (simp;omega)),OW,RWh,RWh,RWh,rz.set_same rfl⟩ ?_
  clear hB hsz hown rh rq ro rz sB zc0 zc1 zc2 zf0 zf1 zf2 zs hc0 hc1 hc2 qc0 qc1 qc2 qc3 qc4
  rintro Y6 ⟨hB,hsz,hown,rh,rq,ro,rz⟩
  skip
  skip
  skip
  skip
  have sh:=RF3 rh
  have sq:=RF5 rq
  have so:=RFz3 ro
  have sz:=RFz3 rz
  clear rh
  clear sh
  skip
  clear rq
  clear sq
  skip
  go_wp2_with fail
  refine (MV2 _ _ _ (own_patR hown HIL.out)).mono ?_
  rintro e W7 ⟨rfl,h1⟩
  clear so
  clear sz
  replace hB:=hB.trans (h1.mono hB.size)
  replace ro:=Row.below ro h1
  replace rz:=Row.below rz h1
  replace hsz:=le_below hsz h1
  replace hown:=own_later hown h1
  clear h1
  have so:=RFz3 ro
  have sz:=RFz3 rz
  go_wp2_with fail
  have sB:=hB.size
  refine post_cut (fun X=>Below w.heap.size w X∧Row X (w.heap.size+1+1) (.cells #[.string (S r.num),.string (S (r.den:Int)),.slice p' (0+1) c'] 26)∧X.ownsRow w.heap.size 32 5 (.slice p' (0+1) c') (0+1) (pCells (ins [] a))) ⟨BW,RWh,own_set3 (own_at hown (by omega)) ro (by decide)⟩ ?_
  clear hB ro hown
  rintro X ⟨hB,ro,hown⟩
  have e0:=Row.cell_at ro 0 rfl
  have e1:=Row.cell_at ro 1 rfl
  have e2:=Row.cell_at ro 2 rfl
  refine bodyPost_ret (v := .tuple #[.agg #[.string (S r.num),.string (S (r.den:Int)),.slice p' (0+1) c'],.int .i64 0]) ?res rfl ⟨p',c',hown,rfl,hB⟩
  case res=>simp [results,Tryz.results19, go_sem,e0,e1,e2]
/-- The reference's Add: a valid history, with a further valid point. -/
theorem r12add {r:Rat} {l:List Pt} {a:Pt} (ho:Hist.Ok ⟨r,l⟩) (hoi:Hist.Ok ⟨r,ins l a⟩) (p:Option Addr) (m c:Nat) (hm:l.length=m) (hmc:m≤c) (w:World) (hp:PAt w p l) (hpn:l=[]→p=none) :
  Calls Tryz.prog 19 #[.agg #[.string (S r.num),.string (S (r.den:Int)),.slice p m c],.agg #[.int .i64 (a.t:Int),.string (S a.iv.lo.num),.string (S (a.iv.lo.den:Int)),.string (S a.iv.hi.num),.string (S (a.iv.hi.den:Int))]] w (AddOk r (ins l a) w):=by
 have key:∀ g cur,p=some ⟨g,0,none⟩→Row w g (.cells cur 32)→cur.toList.take (l.length * 5)=pCells l→Calls Tryz.prog 19 #[.agg #[.string (S r.num),.string (S (r.den:Int)),.slice p m c],.agg #[.int .i64 (a.t:Int),.string (S a.iv.lo.num),.string (S (a.iv.lo.den:Int)),.string (S a.iv.hi.num),.string (S (a.iv.hi.den:Int))]] w (AddOk r (ins l a) w):=fun g cur e hr hx=>by
  subst e
  exact r12add_some ho hoi g m c cur hm hmc w hr hx
 rcases hp with ⟨rfl,rfl | ⟨g,hg⟩⟩ | ⟨g,cur,e,hr,hx⟩
 ·subst hm
  exact r12add_none ho hoi c w
 ·rw [hg] at hpn;cases hpn rfl
 ·exact key g cur e hr hx
end Go.Proofs.YtnokpldomlmamaaGreatDoor
