/-
 The reference's Contradictions at valid histories, and where the history is not valid. The reference's At at valid histories: what is known at a time, or that nothing is.
-/
import Derived.Test.YtnokpldomlmamaaGreatDoorODCons
import Derived.Test.YtnokpldomlmamaaGreatDoorOR12Made
set_option linter.unusedSimpArgs false
set_option linter.unusedVariables false
set_option maxRecDepth 100000
set_option maxHeartbeats 16000000
namespace Go.Proofs.YtnokpldomlmamaaGreatDoor
open Go Go.RowKit Go.Lib Go.Shelf
theorem reads_pair (X:World) (i k:Nat):Reads (X.alloc (.cells #[.int .i64 (i:Int),.int .i64 (k:Int)] 27)) (X.heap.size+1) 2 (some ⟨X.heap.size,0,none⟩) 1 [.int .i64 (i:Int),.int .i64 (k:Int)] :=
 ⟨rfl,fun _=>⟨_,rfl,Nat.lt_succ_self _,fun j u hu=>by rw [Addr.add_lit,Nat.zero_add];exact Row.cell_at (row_new X _) j (by simpa using hu)⟩⟩
theorem PAt.both {W:World} {p:Option Addr} {l:List Pt} (h:PAt W p l) {i k:Nat} (hi:i<l.length) (hk:k<l.length):∃ g cur,p=some ⟨g,0,none⟩∧Row W g (.cells cur 32)
  ∧ (cur[i * 5]? = some (.int .i64 ((ptD l i).t:Int))∧cur[i * 5+1]? = some (.string (S (ptD l i).iv.lo.num))∧cur[i * 5+2]? = some (.string (S ((ptD l i).iv.lo.den:Int)))∧cur[i * 5+3]? = some (.string (S (ptD l i).iv.hi.num))∧cur[i * 5+4]? = some (.string (S ((ptD l i).iv.hi.den:Int))))
  ∧ cur[k * 5]? = some (.int .i64 ((ptD l k).t:Int))∧cur[k * 5+1]? = some (.string (S (ptD l k).iv.lo.num))∧cur[k * 5+2]? = some (.string (S ((ptD l k).iv.lo.den:Int)))∧cur[k * 5+3]? = some (.string (S (ptD l k).iv.hi.num))∧cur[k * 5+4]? = some (.string (S ((ptD l k).iv.hi.den:Int))):=by
 obtain ⟨g,cur,hp,hr,h0⟩:=h.at hi
 obtain ⟨g',cur',hp',hr',k0⟩:=h.at hk
 rw [hp] at hp'
 simp only [Option.some.injEq,Addr.mk.injEq,and_true] at hp'
 subst hp'
 have e:cur'=cur:=by
  have:=hr.2.symm.trans hr'.2
  simp at this
  exact this.symm
 subst e
 exact ⟨g,cur',hp,hr,h0,k0⟩
theorem cAt_at {r:Rat} {l:List Pt} {i k:Nat} {b:Bool} (h:b=decide (contra r (ptD l i) (ptD l k))):cAt ⟨r,l⟩ i k=b:=h.symm
theorem r12cons {r:Rat} {l:List Pt} (ho:Hist.Ok ⟨r,l⟩) (p:Option Addr) (m c:Nat) (hm:l.length=m) (w:World) (hp:PAt w p l) :
  Calls Tryz.prog 21 #[.agg #[.string (S r.num),.string (S (r.den:Int)),.slice p m c]] w fun e w'=>∃ v,w'.ownsRow w.heap.size 27 2 v (cons ⟨r,l⟩).length (cCells (cons ⟨r,l⟩))∧e = .returned v∧Below w.heap.size w w':=by
 have hB:Below w.heap.size w w:=Below.refl _ _
 have MV:=fun W (hp:PAt W p l)=>r12valid ho p m c hm W hp
 have HP:=Lib.hid hp
 have HO:=Lib.hid ho
 have HM:=Lib.hid hm
 have hfew:=ho.few
 simp only [hm] at hfew
 unfold BoolOk HV at MV
 simp only at MV
 obtain ⟨i0,hi,hz0,hz1,hz2⟩:=info_parts pairInfo
 clear ho hm hp
 go_enter Tryz.func21, Tryz.ntmps21
 go_wp2_with fail
 have sB:=hB.size
 refine world_cut (fun X=>Below w.heap.size w X∧Row X w.heap.size (.cells #[.string (S r.num),.string (S (r.den:Int)),.slice p m c] 26)) ⟨BW,RWk⟩ ?_
 clear hB sB
 rintro V1 ⟨hB,rh⟩
 have sh:=RF3 rh
 refine (MV _ (HP.out.below hB)).mono ?_
 rintro e W2 ⟨rfl,h1⟩
 have st:=St1 hB h1 rh;clear hB h1 rh sh
 obtain ⟨hB,rh⟩:=st
 have sh:=RF3 rh
 go_wp2_with fail
 clear sh
 go_loopw [3,4] (fun v3 v4 wr=>∃ i:Nat,v4 = .int .i64 (i:Int)∧i≤m∧wr.ownsRow (w.heap.size+1) 27 2 v3 (conUp (cAt ⟨r,l⟩) m i).length (cCells (conUp (cAt ⟨r,l⟩) m i))∧Below w.heap.size w wr∧Row wr w.heap.size (.cells #[.string (S r.num),.string (S (r.den:Int)),.slice p m c] 26)) (fun _ v4 _=>(m - RowKit.intOf v4).toNat)
 case atStart=>exact ⟨0,rfl,Nat.zero_le _,World.ownsRow_nil _ _ _ _,hB,rh⟩
 case round =>
  clear hB rh
  obtain ⟨i,rfl,him,hown,hB,rh⟩:=hrel
  obtain ⟨sA,sC,rfl⟩:=own_slice hown
  obtain ⟨wO,rfl⟩:∃ W,W=wr:=⟨_,rfl⟩
  rcases Nat.lt_or_ge i m with hlt | hge
  ·have hiI:(i:Int)<(m:Int):=by omega
   have sh:=RF3 rh
   go_wp2_with fail
   clear sh
   go_loopw [3,5] (fun v3 v5 wr=>∃ k:Nat,v5 = .int .i64 (k:Int)∧i<k∧k≤m∧wr.ownsRow (w.heap.size+1) 27 2 v3 (conUp (cAt ⟨r,l⟩) m i ++ rowUp (cAt ⟨r,l⟩) i k).length (cCells (conUp (cAt ⟨r,l⟩) m i ++ rowUp (cAt ⟨r,l⟩) i k))∧Below w.heap.size w wr∧Row wr w.heap.size (.cells #[.string (S r.num),.string (S (r.den:Int)),.slice p m c] 26)) (fun _ v5 _=>(m - RowKit.intOf v5).toNat)
   case atStart=>exact ⟨i+1,by go_num,by omega,by omega,by rw [rowUp_start,List.append_nil];exact hown,hB,rh⟩
   case round =>
    clear hB rh hown
    obtain ⟨k,rfl,hik,hkm,hown,hB,rh⟩:=hrel
    obtain ⟨sB,sD,rfl⟩:=own_slice hown
    rcases Nat.lt_or_ge k m with hlk | hgk
    ·have hil:i<l.length:=by rw [HM.out];exact hlt
     have hkl:k<l.length:=by rw [HM.out];exact hlk
     obtain ⟨a,ha⟩:∃ a,a=ptD l i:=⟨_,rfl⟩
     obtain ⟨b,hb⟩:∃ b,b=ptD l k:=⟨_,rfl⟩
     have hab:a.t≤b.t:=by rw [ha,hb];exact sorted_mono HO.out.sorted (by omega) hkl
     have hbt:b.t≤1000000:=by rw [hb];exact HO.out.times _ (ptD_mem hkl)
     have dA:IDig 40 a.iv:=by rw [ha];exact (HO.out.ivs _ (ptD_mem hil)).2
     have dB:IDig 40 b.iv:=by rw [hb];exact (HO.out.ivs _ (ptD_mem hkl)).2
     have MC:=fun W=>r12contra HO.out.rdig dA dB hab hbt W
     obtain ⟨cb,hcb⟩:∃ cb,cb=decide (contra r a b):=⟨_,rfl⟩
     simp only at MC
     rw [← hcb] at MC
     unfold R12Con Q at MC
     have hlen:=pre_len (cAt ⟨r,l⟩) (n:=m) (i:=i) (k:=k) (by omega) hlt hlk
     obtain ⟨g,cur,rfl,rg,⟨g0,g1,g2,g3,g4⟩,k0,k1,k2,k3,k4⟩:=PAt.both (PAt.below HP.out hB) hil hkl
     rw [← ha] at g0 g1 g2 g3 g4
     rw [← hb] at k0 k1 k2 k3 k4
     rw [ha,hb] at hcb
     have HCB:Hid (cAt ⟨r,l⟩ i k=cb):=Lib.hid (cAt_at hcb)
     clear ha hb hcb dA dB hab hbt
     have hiI:(i:Int)<(m:Int):=by omega
     have hkI:(k:Int)<(m:Int):=by omega
     have sh:=RF3 rh
     have Fg:∀ X,Row X g (.cells cur 32)→(g<X.heap.size∧X.cell? ⟨g,i * 5,none⟩=some (.int .i64 (a.t:Int))∧X.cell? ⟨g,i * 5+1,none⟩=some (.string (S a.iv.lo.num))∧X.cell? ⟨g,i * 5+2,none⟩=some (.string (S (a.iv.lo.den:Int)))∧X.cell? ⟨g,i * 5+3,none⟩=some (.string (S a.iv.hi.num))∧X.cell? ⟨g,i * 5+4,none⟩=some (.string (S (a.iv.hi.den:Int)))∧X.cell? ⟨g,k * 5,none⟩=some (.int .i64 (b.t:Int))∧X.cell? ⟨g,k * 5+1,none⟩=some (.string (S b.iv.lo.num))∧X.cell? ⟨g,k * 5+2,none⟩=some (.string (S (b.iv.lo.den:Int)))∧X.cell? ⟨g,k * 5+3,none⟩=some (.string (S b.iv.hi.num))∧X.cell? ⟨g,k * 5+4,none⟩=some (.string (S (b.iv.hi.den:Int)))):=fun X h=>⟨h.1,Row.cell_at h _ g0,Row.cell_at h _ g1,Row.cell_at h _ g2,Row.cell_at h _ g3,Row.cell_at h _ g4,Row.cell_at h _ k0,Row.cell_at h _ k1,Row.cell_at h _ k2,Row.cell_at h _ k3,Row.cell_at h _ k4⟩
     have sg:=Fg _ rg
     have hfy:=And.intro hiI hkI
     cases cb
     ·go_wp2_with fail
      refine wp_region_vals [.pointer (some ⟨w.heap.size,0,none⟩),.agg #[.string (S r.num),.string (S (r.den:Int))],.pointer (some ⟨w.heap.size,2,none⟩),.slice (some ⟨g,0,none⟩) m c,.int .i64 (i:Int),.pointer (some ⟨g,i * 5,none⟩),.agg #[.int .i64 (a.t:Int),.string (S a.iv.lo.num),.string (S (a.iv.lo.den:Int)),.string (S a.iv.hi.num),.string (S (a.iv.hi.den:Int))],.pointer (some ⟨w.heap.size,2,none⟩),.slice (some ⟨g,0,none⟩) m c,.int .i64 (k:Int),.pointer (some ⟨g,k * 5,none⟩),.agg #[.int .i64 (b.t:Int),.string (S b.iv.lo.num),.string (S (b.iv.lo.den:Int)),.string (S b.iv.hi.num),.string (S (b.iv.hi.den:Int))],.tuple #[.bool false,.int .i64 0],.tuple #[.bool false,.int .i64 0],.bool false,.int .i64 0,.bool false,.int .i64 0] (by kernel_rfl) (by kernel_rfl) rfl (allVals.cons qv0 (allVals.cons (qv1 fun X h=>RF3 (Row.below rh h)) (allVals.cons qv0 (allVals.cons (qv1 fun X h=>RF3 (Row.below rh h)) (allVals.cons qv0 (allVals.cons (qvf hfy) (allVals.cons (qv1 fun X h=>Fg X (Row.below rg h)) (allVals.cons qv0 (allVals.cons (qv1 fun X h=>RF3 (Row.below rh h)) (allVals.cons qv0 (allVals.cons (qvf hfy) (allVals.cons (qv1 fun X h=>Fg X (Row.below rg h)) (allVals.cons (qv2 fun X h=>MC X) (allVals.cons qv0 (allVals.cons qv0 (allVals.cons qv0 (allVals.cons qv0 (allVals.cons qv0 trivial)))))))))))))))))) ?_
      rintro W h1
      replace hown:=own_later hown h1
      have st:=St2 hB h1 rh rg;clear hB h1 rh sh rg sg
      obtain ⟨hB,rh,rg⟩:=st
      have sh:=RF3 rh
      have sg:=Fg _ rg
      simp only [setVals,List.setIfInBounds_toArray,List.set_cons_succ,List.set_cons_zero]
      go_wp2
      go_roundw
      case rel=>exact ⟨k+1,by go_num,by omega,by omega,by rw [rowUp_no HCB.out];exact hown,BW,RWk⟩
      case measure=>simp [RowKit.intOf];omega
     ·go_wp2_with fail
      refine wp_region_vals [.pointer (some ⟨w.heap.size,0,none⟩),.agg #[.string (S r.num),.string (S (r.den:Int))],.pointer (some ⟨w.heap.size,2,none⟩),.slice (some ⟨g,0,none⟩) m c,.int .i64 (i:Int),.pointer (some ⟨g,i * 5,none⟩),.agg #[.int .i64 (a.t:Int),.string (S a.iv.lo.num),.string (S (a.iv.lo.den:Int)),.string (S a.iv.hi.num),.string (S (a.iv.hi.den:Int))],.pointer (some ⟨w.heap.size,2,none⟩),.slice (some ⟨g,0,none⟩) m c,.int .i64 (k:Int),.pointer (some ⟨g,k * 5,none⟩),.agg #[.int .i64 (b.t:Int),.string (S b.iv.lo.num),.string (S (b.iv.lo.den:Int)),.string (S b.iv.hi.num),.string (S (b.iv.hi.den:Int))],.tuple #[.bool true,.int .i64 0],.tuple #[.bool true,.int .i64 0],.bool true,.int .i64 0,.bool true,.int .i64 0] (by kernel_rfl) (by kernel_rfl) rfl (allVals.cons qv0 (allVals.cons (qv1 fun X h=>RF3 (Row.below rh h)) (allVals.cons qv0 (allVals.cons (qv1 fun X h=>RF3 (Row.below rh h)) (allVals.cons qv0 (allVals.cons (qvf hfy) (allVals.cons (qv1 fun X h=>Fg X (Row.below rg h)) (allVals.cons qv0 (allVals.cons (qv1 fun X h=>RF3 (Row.below rh h)) (allVals.cons qv0 (allVals.cons (qvf hfy) (allVals.cons (qv1 fun X h=>Fg X (Row.below rg h)) (allVals.cons (qv2 fun X h=>MC X) (allVals.cons qv0 (allVals.cons qv0 (allVals.cons qv0 (allVals.cons qv0 (allVals.cons qv0 trivial)))))))))))))))))) ?_
      rintro W h1
      replace hown:=own_later hown h1
      have st:=St2 hB h1 rh rg;clear hB h1 rh sh rg sg
      obtain ⟨hB,rh,rg⟩:=st
      have sh:=RF3 rh
      have sg:=Fg _ rg
      simp only [setVals,List.setIfInBounds_toArray,List.set_cons_succ,List.set_cons_zero]
      go_upto_region 12 with fail
      go_wp2_with (at_builtin;refine wpList_append_reads _ rfl (.tmp 48) (.tmp 52) 49 rfl (w.heap.size+1) 27 i0 (.agg #[.int .i64 0,.int .i64 0]) 2 16 Tryz.underlying49 hi hz0 hz1 hz2 rfl (by decide) (.slice sB (conUp (cAt ⟨r,l⟩) m i ++ rowUp (cAt ⟨r,l⟩) i k).length sD) (conUp (cAt ⟨r,l⟩) m i ++ rowUp (cAt ⟨r,l⟩) i k).length (cCells (conUp (cAt ⟨r,l⟩) m i ++ rowUp (cAt ⟨r,l⟩) i k)) rfl (hown.alloc _) (W.heap.size+1) (some ⟨W.heap.size,0,none⟩) 1 1 [.int .i64 (i:Int),.int .i64 (k:Int)] rfl (reads_pair _ i k) (by simp [Value.oneCell']) (by unfold maxLen;omega) (by omega) (by have:=hB.size;have:=rh.1;simp;omega) ?_;intro v' W9 hown' hgrow';replace hB:=Below.grown (hB.alloc hB.size _) hgrow' (by have:=hB.size;simp;omega) (fun j hj=>by have:=(World.ownsRow.lt hown j hj).1;omega);replace rh:=own_row_ne (hown.alloc _) hgrow' (rh.alloc _) (Nat.lt_succ_self _);clear hown rg;(try clear sh sg))
      go_roundw
      case rel=>exact ⟨k+1,by go_num,by omega,by omega,by rw [rowUp_yes hik HCB.out,← List.append_assoc,cCells_snoc,List.length_append];exact hown',hB,rh⟩
      case measure=>simp [RowKit.intOf];omega
    ·obtain rfl:m=k:=by omega
     have sh:=RF3 rh
     go_wp2
     go_roundw
     case rel=>exact ⟨i+1,by go_num,by omega,by rw [conUp_succ];exact hown,BW,RWk⟩
     case measure=>simp [RowKit.intOf];omega
  ·obtain rfl:m=i:=by omega
   have sh:=RF3 rh
   have hcons:cons ⟨r,l⟩=conUp (cAt ⟨r,l⟩) m m:=by unfold cons;simp only [HM.out]
   have HCO:=Lib.hid hcons
   clear hcons
   go_wp2
   go_ret
   refine ⟨_,?_,rfl,hB⟩
   rw [HCO.out]
   exact own_at hown (by omega)
end Go.Proofs.YtnokpldomlmamaaGreatDoor
namespace Go.Proofs.YtnokpldomlmamaaGreatDoor
open Go Go.RowKit Go.Lib Go.Shelf
attribute [local go_sem] normalQ
theorem r12at {r:Rat} {l:List Pt} (ho:Hist.Ok ⟨r,l⟩) {t:Nat} (ht:t≤1000000) (p:Option Addr) (m c:Nat) (hm:l.length=m) (hpos:0<m) (w:World) (hp:PAt w p l) :
  Calls Tryz.prog 12 #[.agg #[.string (S r.num),.string (S (r.den:Int)),.slice p m c],.int .i64 (t:Int)] w (AtPost r l t w):=by
 have hB:Below w.heap.size w w:=Below.refl _ _
 have MV:=fun W (hp:PAt W p l)=>r12valid ho p m c hm W hp
 have hfew:=ho.few
 simp only [hm] at hfew
 have hm0:((m:Int) == 0)=false:=by rw [beq_eq_false_iff_ne];omega
 have ht0:decide ((t:Int)<0)=false:=decide_eq_false (by omega)
 have ht1:decide (1000000<(t:Int))=false:=decide_eq_false (by omega)
 have HP:=Lib.hid hp
 have HO:=Lib.hid ho
 have HM:=Lib.hid hm
 have HT:=Lib.hid ht
 have HPOS:=Lib.hid hpos
 unfold BoolOk HV at MV
 simp only at MV
 unfold AtPost
 clear ho hm hp ht hpos
 go_enter Tryz.func12, Tryz.ntmps12
 go_wp2_with fail
 have d0_o:w.heap.size≤w.heap.size+1:=by have:=hB.size;omega
 have sB:=hB.size
 refine world_cut (fun X=>Below w.heap.size w X∧Row X w.heap.size (.cells #[.string (S r.num),.string (S (r.den:Int)),.slice p m c] 26)∧Row X (w.heap.size+1) (.cells #[.string ⟨#[]⟩,.string ⟨#[]⟩,.string ⟨#[]⟩,.string ⟨#[]⟩] 30)) ⟨BW,RWk,RWk⟩ ?_
 clear hB sB
 rintro V1 ⟨hB,rh,ro⟩
 have sh:=RF3 rh
 have so:=RFz4 ro
 refine (MV _ (HP.out.below hB)).mono ?_
 rintro e W2 ⟨rfl,h1⟩
 have st:=St2 hB h1 rh ro;clear hB h1 rh sh ro so
 obtain ⟨hB,rh,ro⟩:=st
 have sh:=RF3 rh
 have so:=RFz4 ro
 go_wp2_with fail
 clear sh
 clear so
 go_loopw [6] (fun v6 wr=>∃ i:Nat,v6 = .int .i64 (i:Int)∧i≤m∧Hid (conUp (cAt ⟨r,l⟩) m i=[])∧Below w.heap.size w wr∧Row wr w.heap.size (.cells #[.string (S r.num),.string (S (r.den:Int)),.slice p m c] 26)∧Row wr (w.heap.size+1) (.cells #[.string ⟨#[]⟩,.string ⟨#[]⟩,.string ⟨#[]⟩,.string ⟨#[]⟩] 30)) (fun v6 _=>(m - RowKit.intOf v6).toNat)
 case atStart=>exact ⟨0,rfl,Nat.zero_le _,Lib.hid rfl,hB,rh,ro⟩
 case round =>
  clear hB rh ro
  obtain ⟨i,rfl,him,HCU,hB,rh,ro⟩:=hrel
  obtain ⟨wO,rfl⟩:∃ W,W=wr:=⟨_,rfl⟩
  rcases Nat.lt_or_ge i m with hlt | hge
  ·have hiI:(i:Int)<(m:Int):=by omega
   have sh:=RF3 rh
   have so:=RFz4 ro
   go_wp2_with fail
   clear sh
   clear so
   go_loopw [7] (fun v7 wr=>∃ k:Nat,v7 = .int .i64 (k:Int)∧i<k∧k≤m∧Hid (rowUp (cAt ⟨r,l⟩) i k=[])∧Below w.heap.size w wr∧Row wr w.heap.size (.cells #[.string (S r.num),.string (S (r.den:Int)),.slice p m c] 26)∧Row wr (w.heap.size+1) (.cells #[.string ⟨#[]⟩,.string ⟨#[]⟩,.string ⟨#[]⟩,.string ⟨#[]⟩] 30)) (fun v7 _=>(m - RowKit.intOf v7).toNat)
   case atStart=>exact ⟨i+1,by go_num,by omega,by omega,Lib.hid (rowUp_start _ _),hB,rh,ro⟩
   case round =>
    clear hB rh ro
    obtain ⟨k,rfl,hik,hkm,HRU,hB,rh,ro⟩:=hrel
    rcases Nat.lt_or_ge k m with hlk | hgk
    ·have hil:i<l.length:=by rw [HM.out];exact hlt
     have hkl:k<l.length:=by rw [HM.out];exact hlk
     obtain ⟨a,ha⟩:∃ a,a=ptD l i:=⟨_,rfl⟩
     obtain ⟨b,hb⟩:∃ b,b=ptD l k:=⟨_,rfl⟩
     have hab:a.t≤b.t:=by rw [ha,hb];exact sorted_mono HO.out.sorted (by omega) hkl
     have hbt:b.t≤1000000:=by rw [hb];exact HO.out.times _ (ptD_mem hkl)
     have dA:IDig 40 a.iv:=by rw [ha];exact (HO.out.ivs _ (ptD_mem hil)).2
     have dB:IDig 40 b.iv:=by rw [hb];exact (HO.out.ivs _ (ptD_mem hkl)).2
     have MC:=fun W=>r12contra HO.out.rdig dA dB hab hbt W
     obtain ⟨cb,hcb⟩:∃ cb,cb=decide (contra r a b):=⟨_,rfl⟩
     simp only at MC
     rw [← hcb] at MC
     unfold R12Con Q at MC
     obtain ⟨g,cur,rfl,rg,⟨g0,g1,g2,g3,g4⟩,k0,k1,k2,k3,k4⟩:=PAt.both (PAt.below HP.out hB) hil hkl
     rw [← ha] at g0 g1 g2 g3 g4
     rw [← hb] at k0 k1 k2 k3 k4
     rw [ha,hb] at hcb
     have HCB:Hid (cAt ⟨r,l⟩ i k=cb):=Lib.hid (cAt_at hcb)
     have HNF:Hid (cb=true→¬ Free ⟨r,l⟩):=Lib.hid fun e hf=>hf _ (ptD_mem hil) _ (ptD_mem hkl) (of_decide_eq_true (hcb.symm.trans e))
     clear ha hb hcb dA dB hab hbt
     have hiI:(i:Int)<(m:Int):=by omega
     have hkI:(k:Int)<(m:Int):=by omega
     have sh:=RF3 rh
     have so:=RFz4 ro
     have Fg:∀ X,Row X g (.cells cur 32)→(g<X.heap.size∧X.cell? ⟨g,i * 5,none⟩=some (.int .i64 (a.t:Int))∧X.cell? ⟨g,i * 5+1,none⟩=some (.string (S a.iv.lo.num))∧X.cell? ⟨g,i * 5+2,none⟩=some (.string (S (a.iv.lo.den:Int)))∧X.cell? ⟨g,i * 5+3,none⟩=some (.string (S a.iv.hi.num))∧X.cell? ⟨g,i * 5+4,none⟩=some (.string (S (a.iv.hi.den:Int)))∧X.cell? ⟨g,k * 5,none⟩=some (.int .i64 (b.t:Int))∧X.cell? ⟨g,k * 5+1,none⟩=some (.string (S b.iv.lo.num))∧X.cell? ⟨g,k * 5+2,none⟩=some (.string (S (b.iv.lo.den:Int)))∧X.cell? ⟨g,k * 5+3,none⟩=some (.string (S b.iv.hi.num))∧X.cell? ⟨g,k * 5+4,none⟩=some (.string (S (b.iv.hi.den:Int)))):=fun X h=>⟨h.1,Row.cell_at h _ g0,Row.cell_at h _ g1,Row.cell_at h _ g2,Row.cell_at h _ g3,Row.cell_at h _ g4,Row.cell_at h _ k0,Row.cell_at h _ k1,Row.cell_at h _ k2,Row.cell_at h _ k3,Row.cell_at h _ k4⟩
     have sg:=Fg _ rg
     have hfy:=And.intro hiI hkI
     cases cb
     ·go_wp2_with fail
      refine wp_region_vals [.pointer (some ⟨w.heap.size,0,none⟩),.agg #[.string (S r.num),.string (S (r.den:Int))],.pointer (some ⟨w.heap.size,2,none⟩),.slice (some ⟨g,0,none⟩) m c,.int .i64 (i:Int),.pointer (some ⟨g,i * 5,none⟩),.agg #[.int .i64 (a.t:Int),.string (S a.iv.lo.num),.string (S (a.iv.lo.den:Int)),.string (S a.iv.hi.num),.string (S (a.iv.hi.den:Int))],.pointer (some ⟨w.heap.size,2,none⟩),.slice (some ⟨g,0,none⟩) m c,.int .i64 (k:Int),.pointer (some ⟨g,k * 5,none⟩),.agg #[.int .i64 (b.t:Int),.string (S b.iv.lo.num),.string (S (b.iv.lo.den:Int)),.string (S b.iv.hi.num),.string (S (b.iv.hi.den:Int))],.tuple #[.bool false,.int .i64 0],.tuple #[.bool false,.int .i64 0],.bool false,.int .i64 0,.bool false,.int .i64 0] (by kernel_rfl) (by kernel_rfl) rfl (allVals.cons qv0 (allVals.cons (qv1 fun X h=>RF3 (Row.below rh h)) (allVals.cons qv0 (allVals.cons (qv1 fun X h=>RF3 (Row.below rh h)) (allVals.cons qv0 (allVals.cons (qvf hfy) (allVals.cons (qv1 fun X h=>Fg X (Row.below rg h)) (allVals.cons qv0 (allVals.cons (qv1 fun X h=>RF3 (Row.below rh h)) (allVals.cons qv0 (allVals.cons (qvf hfy) (allVals.cons (qv1 fun X h=>Fg X (Row.below rg h)) (allVals.cons (qv2 fun X h=>MC X) (allVals.cons qv0 (allVals.cons qv0 (allVals.cons qv0 (allVals.cons qv0 (allVals.cons qv0 trivial)))))))))))))))))) ?_
      rintro W h1
      have st:=St3 hB h1 rh ro rg;clear hB h1 rh sh ro so rg sg
      obtain ⟨hB,rh,ro,rg⟩:=st
      have sh:=RF3 rh
      have so:=RFz4 ro
      have sg:=Fg _ rg
      simp only [setVals,List.setIfInBounds_toArray,List.set_cons_succ,List.set_cons_zero]
      go_wp2
      go_roundw
      case rel=>exact ⟨k+1,by go_num,by omega,by omega,Lib.hid (by rw [rowUp_no HCB.out];exact HRU.out),BW,RWk,RWk⟩
      case measure=>simp [RowKit.intOf];omega
     ·go_wp2_with fail
      refine wp_region_vals [.pointer (some ⟨w.heap.size,0,none⟩),.agg #[.string (S r.num),.string (S (r.den:Int))],.pointer (some ⟨w.heap.size,2,none⟩),.slice (some ⟨g,0,none⟩) m c,.int .i64 (i:Int),.pointer (some ⟨g,i * 5,none⟩),.agg #[.int .i64 (a.t:Int),.string (S a.iv.lo.num),.string (S (a.iv.lo.den:Int)),.string (S a.iv.hi.num),.string (S (a.iv.hi.den:Int))],.pointer (some ⟨w.heap.size,2,none⟩),.slice (some ⟨g,0,none⟩) m c,.int .i64 (k:Int),.pointer (some ⟨g,k * 5,none⟩),.agg #[.int .i64 (b.t:Int),.string (S b.iv.lo.num),.string (S (b.iv.lo.den:Int)),.string (S b.iv.hi.num),.string (S (b.iv.hi.den:Int))],.tuple #[.bool true,.int .i64 0],.tuple #[.bool true,.int .i64 0],.bool true,.int .i64 0,.bool true,.int .i64 0] (by kernel_rfl) (by kernel_rfl) rfl (allVals.cons qv0 (allVals.cons (qv1 fun X h=>RF3 (Row.below rh h)) (allVals.cons qv0 (allVals.cons (qv1 fun X h=>RF3 (Row.below rh h)) (allVals.cons qv0 (allVals.cons (qvf hfy) (allVals.cons (qv1 fun X h=>Fg X (Row.below rg h)) (allVals.cons qv0 (allVals.cons (qv1 fun X h=>RF3 (Row.below rh h)) (allVals.cons qv0 (allVals.cons (qvf hfy) (allVals.cons (qv1 fun X h=>Fg X (Row.below rg h)) (allVals.cons (qv2 fun X h=>MC X) (allVals.cons qv0 (allVals.cons qv0 (allVals.cons qv0 (allVals.cons qv0 (allVals.cons qv0 trivial)))))))))))))))))) ?_
      rintro W h1
      have st:=St3 hB h1 rh ro rg;clear hB h1 rh sh ro so rg sg
      obtain ⟨hB,rh,ro,rg⟩:=st
      have sh:=RF3 rh
      have so:=RFz4 ro
      have sg:=Fg _ rg
      simp only [setVals,List.setIfInBounds_toArray,List.set_cons_succ,List.set_cons_zero]
      go_upto_region 10 with fail
      go_wp2_with fail
      clear Fg
      have sB:=hB.size
      refine post_cut (fun X=>Below w.heap.size w X∧Row X (w.heap.size+1) (.cells #[.string ⟨#[]⟩,.string ⟨#[]⟩,.string ⟨#[]⟩,.string ⟨#[]⟩] 30)) ⟨BW,RWk⟩ ?_
      clear rh
      clear sh
      clear ro
      clear so
      clear rg
      clear sg
      clear hB sB
      rintro V3 ⟨hB,ro⟩
      have so:=RFz4 ro
      refine bodyPost_ret (v := .tuple #[.agg #[.string ⟨#[]⟩,.string ⟨#[]⟩,.string ⟨#[]⟩,.string ⟨#[]⟩],.int .i64 120]) ?res rfl ⟨.inr ⟨HNF.out (by trivial),rfl⟩,hB⟩
      case res=>simp [results,Tryz.results12, go_sem,so]
    ·obtain rfl:m=k:=by omega
     have sh:=RF3 rh
     have so:=RFz4 ro
     go_wp2
     go_roundw
     case rel=>exact ⟨i+1,by go_num,by omega,Lib.hid (by rw [conUp_succ,HCU.out,HRU.out];rfl),BW,RWk,RWk⟩
     case measure=>simp [RowKit.intOf];omega
  ·obtain rfl:m=i:=by omega
   have hfree:Free ⟨r,l⟩:=(cons_nil HO.out).1 (by unfold cons;simp only [HM.out];exact HCU.out)
   have HF:=Lib.hid hfree
   clear hfree HCU
   have hml:0<l.length:=by have:=HM.out;have:=HPOS.out;omega
   have sh:=RF3 rh
   have so:=RFz4 ro
   go_wp2_with fail
   have dh_out:w.heap.size<wO.heap.size:=by omega
   have do_out:w.heap.size+1<wO.heap.size:=by omega
   have d0_out:w.heap.size≤wO.heap.size:=by have:=hB.size;omega
   have sB:=hB.size
   refine wp_cut (fun X=>Below w.heap.size w X∧Row X w.heap.size (.cells #[.string (S r.num),.string (S (r.den:Int)),.slice p m c] 26)∧Row X (w.heap.size+1) (.cells #[.string ⟨#[]⟩,.string ⟨#[]⟩,.string ⟨#[]⟩,.string ⟨#[]⟩] 30)∧Row X wO.heap.size (.cells #[.string ⟨#[]⟩,.string ⟨#[]⟩,.string ⟨#[]⟩,.string ⟨#[]⟩] 30)) ⟨BW,RWk,RWk,RWk⟩ ?_
   clear rh
   clear sh
   clear ro
   clear so
   clear hB sB
   rintro V3 ⟨hB,rh,ro,rout⟩
   have sh:=RF3 rh
   have so:=RFz4 ro
   have sout:=RFz4 rout
   clear sh
   clear so
   clear sout
   generalize hob:wO.heap.size=ob at rout
   have hoo:w.heap.size+1<ob:=by omega
   clear hob
   go_loopw [11] (fun v11 wr=>∃ (i:Nat) (a1 a2 b1 b2:ByteArray),v11 = .int .i64 (i:Int)∧i≤m∧(i≠0→∃ o,Knows ⟨r,l.take i⟩ t o∧a1=S o.lo.num∧a2=S (o.lo.den:Int)∧b1=S o.hi.num∧b2=S (o.hi.den:Int))∧Below w.heap.size w wr∧Row wr ob (.cells #[.string a1,.string a2,.string b1,.string b2] 30)∧Row wr w.heap.size (.cells #[.string (S r.num),.string (S (r.den:Int)),.slice p m c] 26)∧Row wr (w.heap.size+1) (.cells #[.string ⟨#[]⟩,.string ⟨#[]⟩,.string ⟨#[]⟩,.string ⟨#[]⟩] 30)) (fun v11 _=>(m - RowKit.intOf v11).toNat)
   case atStart=>exact ⟨0,_,_,_,_,rfl,Nat.zero_le _,fun h=>absurd rfl h,hB,rout,rh,ro⟩
   case round =>
    clear hB rout rh ro
    obtain ⟨i,a1,a2,b1,b2,rfl,him,hk,hB,rout,rh,ro⟩:=hrel
    rcases Nat.lt_or_ge i m with hlt | hge
    ·have hil:i<l.length:=by rw [HM.out];exact hlt
     obtain ⟨q,hq⟩:∃ q,q=ptD l i:=⟨_,rfl⟩
     have hmq:q ∈ l:=hq ▸ ptD_mem hil
     have hiI:(i:Int)<(m:Int):=by omega
     obtain ⟨g,cur,rfl,rg,g0,g1,g2,g3,g4⟩:=PAt.at (PAt.below HP.out hB) hil
     rw [← hq] at g0 g1 g2 g3 g4
     have HQ:=Lib.hid hq
     clear hq
     have hqt:=HO.out.times q hmq
     have MW:=fun W=>r12widened (t:=t) HO.out.rdig (HO.out.ivs q hmq).2 HT.out hqt W
     have dL:=lowAt_dig (t:=t) HO.out.rdig (HO.out.ivs q hmq).2 HT.out hqt
     have dH:=highAt_dig (t:=t) HO.out.rdig (HO.out.ivs q hmq).2 HT.out hqt
     try simp only at dL dH MW
     unfold WidOk Q at MW
     have HKn:=Lib.hid hk
     clear hk
     generalize hlo:lowAt r t q=xl at *
     generalize hhi:highAt r t q=xh at *
     have HLO:=Lib.hid hlo
     have HHI:=Lib.hid hhi
     clear hlo hhi hmq hqt
     have sh:=RF3 rh
     have so:=RFz4 ro
     have sout:=RFz4 rout
     have Fg:∀ X,Row X g (.cells cur 32)→(g<X.heap.size∧X.cell? ⟨g,i * 5,none⟩=some (.int .i64 (q.t:Int))∧X.cell? ⟨g,i * 5+1,none⟩=some (.string (S q.iv.lo.num))∧X.cell? ⟨g,i * 5+2,none⟩=some (.string (S (q.iv.lo.den:Int)))∧X.cell? ⟨g,i * 5+3,none⟩=some (.string (S q.iv.hi.num))∧X.cell? ⟨g,i * 5+4,none⟩=some (.string (S (q.iv.hi.den:Int)))):=fun X h=>⟨h.1,Row.cell_at h _ g0,Row.cell_at h _ g1,Row.cell_at h _ g2,Row.cell_at h _ g3,Row.cell_at h _ g4⟩
     have sg:=Fg _ rg
     go_wp2_with fail
     have dh_x:=rh.1
     have do_x:=ro.1
     have dout_x:=rout.1
     have dg_x:=rg.1
     have d0_x:=hB.size
     refine wp_region_late 13 [11] [.val (.pointer (some ⟨w.heap.size,0,none⟩)),.val (.agg #[.string (S r.num),.string (S (r.den:Int))]),.val (.pointer (some ⟨w.heap.size,2,none⟩)),.val (.slice (some ⟨g,0,none⟩) m c),.val (.int .i64 (i:Int)),.val (.pointer (some ⟨g,i * 5,none⟩)),.val (.agg #[.int .i64 (q.t:Int),.string (S q.iv.lo.num),.string (S (q.iv.lo.den:Int)),.string (S q.iv.hi.num),.string (S (q.iv.hi.den:Int))]),.val (.int .i64 (t:Int)),.val (.tuple #[.agg #[.string (S xl.num),.string (S (xl.den:Int)),.string (S xh.num),.string (S (xh.den:Int))],.int .i64 0]),.val (.tuple #[.agg #[.string (S xl.num),.string (S (xl.den:Int)),.string (S xh.num),.string (S (xh.den:Int))],.int .i64 0]),.val (.agg #[.string (S xl.num),.string (S (xl.den:Int)),.string (S xh.num),.string (S (xh.den:Int))]),.val (.int .i64 0),.say (fresh _ (.cells #[.string ⟨#[]⟩,.string ⟨#[]⟩,.string ⟨#[]⟩,.string ⟨#[]⟩] 30))] [12] (by kernel_rfl) (by kernel_rfl) (by kernel_rfl) rfl ⟨fresh_mono _ _,trivial⟩ (allItems.cons qi0 (allItems.cons (qi1 fun X h=>RF3 (Row.below rh h)) (allItems.cons qi0 (allItems.cons (qi1 fun X h=>RF3 (Row.below rh h)) (allItems.cons qi0 (allItems.cons (qif hiI) (allItems.cons (qi1 fun X h=>Fg X (Row.below rg h)) (allItems.cons qi0 (allItems.cons (qi2 fun X h=>MW X) (allItems.cons qi0 (allItems.cons qi0 (allItems.cons qi0 (allItems.cons qia trivial))))))))))))) ?_
     rintro W h1
     have st:=St4 hB h1 rh ro rout rg;clear hB h1 rh sh ro so rout sout rg sg
     obtain ⟨hB,rh,ro,rout,rg⟩:=st
     have sh:=RF3 rh
     have so:=RFz4 ro
     have sout:=RFz4 rout
     have sg:=Fg _ rg
     simp only [setItems,List.setIfInBounds_toArray,List.set_cons_succ,List.set_cons_zero,List.take_succ_cons,List.take_zero,List.drop_succ_cons,List.drop_zero]
     rintro _ ⟨px,rfl,hx,rx⟩
     replace dh_x:=Nat.lt_of_lt_of_le dh_x hx
     replace do_x:=Nat.lt_of_lt_of_le do_x hx
     replace dout_x:=Nat.lt_of_lt_of_le dout_x hx
     replace dg_x:=Nat.lt_of_lt_of_le dg_x hx
     replace d0_x:=Nat.le_trans d0_x hx
     have sx:=RFz4 rx
     intro _
     go_wp2_with fail
     unfold normalQ
     go_upto_region 19 with fail
     clear Fg
     have sB:=hB.size
     refine wp_cut (fun X=>Below w.heap.size w X∧Row X w.heap.size (.cells #[.string (S r.num),.string (S (r.den:Int)),.slice (some ⟨g,0,none⟩) m c] 26)∧Row X (w.heap.size+1) (.cells #[.string ⟨#[]⟩,.string ⟨#[]⟩,.string ⟨#[]⟩,.string ⟨#[]⟩] 30)∧Row X ob (.cells #[.string a1,.string a2,.string b1,.string b2] 30)∧Row X px (.cells #[.string (S xl.num),.string (S (xl.den:Int)),.string (S xh.num),.string (S (xh.den:Int))] 30)) ⟨BW,RWk,RWk,RWk,RWk⟩ ?_
     clear rh
     clear sh
     clear ro
     clear so
     clear rout
     clear sout
     clear rg
     clear sg
     clear rx
     clear sx
     clear hB sB
     rintro V4 ⟨hB,rh,ro,rout,rx⟩
     have sh:=RF3 rh
     have so:=RFz4 ro
     have sout:=RFz4 rout
     have sx:=RFz4 rx
     rcases Nat.eq_zero_or_pos i with hi0 | hi0
     ·have HI0:=Lib.hid hi0
      clear hi0
      have hkn:Knows ⟨r,l.take (i+1)⟩ t ⟨xl,xh⟩:=by have h9:=knows_first (r:=r) t hml;have h8:=HI0.out;have h7:=HQ.out;subst h8;rw [← h7,HLO.out,HHI.out] at h9;exact h9
      have HKN:=Lib.hid hkn
      clear hkn
      go_upto_region 19 with fail
      refine wp_region_vals_seq [.int .i64 (i:Int),.bool true,.bool true,undef,undef,undef,undef,undef,undef,.bool true] (by kernel_rfl) rfl (allVals.cons qv0 (allVals.cons (qvf HI0.out) (allVals.cons qv0 (allVals.cons qv0 (allVals.cons qv0 (allVals.cons qv0 (allVals.cons qv0 (allVals.cons qv0 (allVals.cons qv0 (allVals.cons (qvf HI0.out) trivial)))))))))) ?_
      rintro W h1
      have st:=St4 hB h1 rh ro rout rx;clear hB h1 rh sh ro so rout sout rx sx
      obtain ⟨hB,rh,ro,rout,rx⟩:=st
      have sh:=RF3 rh
      have so:=RFz4 ro
      have sout:=RFz4 rout
      have sx:=RFz4 rx
      simp only [setVals,List.setIfInBounds_toArray,List.set_cons_succ,List.set_cons_zero]
      go_upto_region 21 with fail
      have sB:=hB.size
      refine wp_cut (fun X=>Below w.heap.size w X∧Row X w.heap.size (.cells #[.string (S r.num),.string (S (r.den:Int)),.slice (some ⟨g,0,none⟩) m c] 26)∧Row X (w.heap.size+1) (.cells #[.string ⟨#[]⟩,.string ⟨#[]⟩,.string ⟨#[]⟩,.string ⟨#[]⟩] 30)∧Row X ob (.cells #[.string (S xl.num),.string (S (xl.den:Int)),.string b1,.string b2] 30)∧Row X px (.cells #[.string (S xl.num),.string (S (xl.den:Int)),.string (S xh.num),.string (S (xh.den:Int))] 30)) ⟨BW,RWk,RWk,RWk,RWk⟩ ?_
      clear rh
      clear sh
      clear ro
      clear so
      clear rout
      clear sout
      clear rx
      clear sx
      clear hB sB
      rintro V5 ⟨hB,rh,ro,rout,rx⟩
      have sh:=RF3 rh
      have so:=RFz4 ro
      have sout:=RFz4 rout
      have sx:=RFz4 rx
      refine wp_region_vals_seq [.int .i64 (i:Int),.bool true,.bool true,undef,undef,undef,undef,undef,undef,.bool true] (by kernel_rfl) rfl (allVals.cons qv0 (allVals.cons (qvf HI0.out) (allVals.cons qv0 (allVals.cons qv0 (allVals.cons qv0 (allVals.cons qv0 (allVals.cons qv0 (allVals.cons qv0 (allVals.cons qv0 (allVals.cons (qvf HI0.out) trivial)))))))))) ?_
      rintro W h1
      have st:=St4 hB h1 rh ro rout rx;clear hB h1 rh sh ro so rout sout rx sx
      obtain ⟨hB,rh,ro,rout,rx⟩:=st
      have sh:=RF3 rh
      have so:=RFz4 ro
      have sout:=RFz4 rout
      have sx:=RFz4 rx
      simp only [setVals,List.setIfInBounds_toArray,List.set_cons_succ,List.set_cons_zero]
      go_wp2
      go_roundw
      case rel=>exact ⟨i+1,_,_,_,_,by go_num,by omega,(fun _=>⟨⟨xl,xh⟩,HKN.out,rfl,rfl,rfl,rfl⟩),BW,RWk,RWk,RWk⟩
      case measure=>simp [RowKit.intOf];omega
     ·have HNZ:Hid (¬ i=0):=Lib.hid (by omega)
      clear hi0
      obtain ⟨o,hkn,rfl,rfl,rfl,rfl⟩:=HKn.out HNZ.out
      have hdo:=hkn.dig HO.out.rdig (fun p hp=>(HO.out.ivs p (List.mem_of_mem_take hp)).2) HT.out (fun p hp=>HO.out.times p (List.mem_of_mem_take hp))
      have M1:=fun W=>rqcompare xl o.lo (dL.mono (by omega)) (hdo.1.mono (by omega)) W
      have M2:=fun W=>rqcompare xh o.hi (dH.mono (by omega)) (hdo.2.mono (by omega)) W
      have hkn2:=knows_next hil hkn
      rw [← HQ.out,HLO.out,HHI.out] at hkn2
      unfold CmpOk Q at M1 M2
      generalize cmpQ xl o.lo=c1 at *
      generalize cmpQ xh o.hi=c2 at *
      obtain ⟨nl,hnl⟩:∃ x,x=(if decide (0<c1) then xl else o.lo):=⟨_,rfl⟩
      obtain ⟨nh,hnh⟩:∃ x,x=(if decide (c2<0) then xh else o.hi):=⟨_,rfl⟩
      rw [← hnl,← hnh] at hkn2
      have HN2:=Lib.hid hkn2
      have HNL:=Lib.hid hnl
      have HNH:=Lib.hid hnh
      clear hkn hkn2 hnl hnh hdo dL dH
      have sout:=RFz4 rout
      go_upto_region 19 with fail
      refine wp_region_vals_seq [.int .i64 (i:Int),.bool false,.bool false,.pointer (some ⟨px,0,none⟩),.agg #[.string (S xl.num),.string (S (xl.den:Int))],.pointer (some ⟨ob,0,none⟩),.agg #[.string (S o.lo.num),.string (S (o.lo.den:Int))],.int .i64 c1,.bool (decide (0<c1)),.bool (decide (0<c1))] (by kernel_rfl) rfl (allVals.cons qv0 (allVals.cons (qvf HNZ.out) (allVals.cons qv0 (allVals.cons qv0 (allVals.cons (qv1 fun X h=>RFz4 (Row.below rx h)) (allVals.cons qv0 (allVals.cons (qv1 fun X h=>RFz4 (Row.below rout h)) (allVals.cons (qv2 fun X h=>M1 X) (allVals.cons (qvf HNZ.out) (allVals.cons (qvf HNZ.out) trivial)))))))))) ?_
      rintro W h1
      have st:=St4 hB h1 rh ro rout rx;clear hB h1 rh sh ro so rout sout rx sx
      obtain ⟨hB,rh,ro,rout,rx⟩:=st
      have sh:=RF3 rh
      have so:=RFz4 ro
      have sout:=RFz4 rout
      have sx:=RFz4 rx
      simp only [setVals,List.setIfInBounds_toArray,List.set_cons_succ,List.set_cons_zero]
      go_upto_if 102 with fail
      go_cut [] (fun W=>Below w.heap.size w W∧Row W w.heap.size (.cells #[.string (S r.num),.string (S (r.den:Int)),.slice (some ⟨g,0,none⟩) m c] 26)∧Row W (w.heap.size+1) (.cells #[.string ⟨#[]⟩,.string ⟨#[]⟩,.string ⟨#[]⟩,.string ⟨#[]⟩] 30)∧Row W ob (.cells #[.string (S nl.num),.string (S (nl.den:Int)),.string (S o.hi.num),.string (S (o.hi.den:Int))] 30)∧Row W px (.cells #[.string (S xl.num),.string (S (xl.den:Int)),.string (S xh.num),.string (S (xh.den:Int))] 30))
      case first =>
       by_cases hc:0<c1
       ·have hd:decide (0<c1)=true:=decide_eq_true hc
        have h9:nl=xl:=by rw [HNL.out,hd];rfl
        have H9:=Lib.hid h9
        clear hd h9
        go_wp2
        go_meet
        case rel=>rw [H9.out];exact ⟨BW,RWk,RWk,RWk,RWk⟩
       ·have hd:decide (0<c1)=false:=decide_eq_false hc
        have h9:nl=o.lo:=by rw [HNL.out,hd];rfl
        have H9:=Lib.hid h9
        clear hd h9
        go_wp2
        go_meet
        case rel=>rw [H9.out];exact ⟨BW,RWk,RWk,RWk,RWk⟩
      case rest =>
       clear hB rh ro rout rx
       clear sh
       clear so
       clear sout
       clear sx
       obtain ⟨hB,rh,ro,rout,rx⟩:=hcut
       skip
       have sh:=RF3 rh
       have so:=RFz4 ro
       have sout:=RFz4 rout
       have sx:=RFz4 rx
       go_upto_region 21 with fail
       refine wp_region_vals_seq [.int .i64 (i:Int),.bool false,.bool false,.pointer (some ⟨px,2,none⟩),.agg #[.string (S xh.num),.string (S (xh.den:Int))],.pointer (some ⟨ob,2,none⟩),.agg #[.string (S o.hi.num),.string (S (o.hi.den:Int))],.int .i64 c2,.bool (decide (c2<0)),.bool (decide (c2<0))] (by kernel_rfl) rfl (allVals.cons qv0 (allVals.cons (qvf HNZ.out) (allVals.cons qv0 (allVals.cons qv0 (allVals.cons (qv1 fun X h=>RFz4 (Row.below rx h)) (allVals.cons qv0 (allVals.cons (qv1 fun X h=>RFz4 (Row.below rout h)) (allVals.cons (qv2 fun X h=>M2 X) (allVals.cons (qvf HNZ.out) (allVals.cons (qvf HNZ.out) trivial)))))))))) ?_
       rintro W h1
       have st:=St4 hB h1 rh ro rout rx;clear hB h1 rh sh ro so rout sout rx sx
       obtain ⟨hB,rh,ro,rout,rx⟩:=st
       have sh:=RF3 rh
       have so:=RFz4 ro
       have sout:=RFz4 rout
       have sx:=RFz4 rx
       simp only [setVals,List.setIfInBounds_toArray,List.set_cons_succ,List.set_cons_zero]
       by_cases hc:c2<0
       ·have hd:decide (c2<0)=true:=decide_eq_true hc
        have h9:nh=xh:=by rw [HNH.out,hd];rfl
        rw [h9] at HN2
        clear hd h9 HNH
        go_wp2
        go_roundw
        case rel=>exact ⟨i+1,_,_,_,_,by go_num,by omega,(fun _=>⟨_,HN2.out,rfl,rfl,rfl,rfl⟩),BW,RWk,RWk,RWk⟩
        case measure=>simp [RowKit.intOf];omega
       ·have hd:decide (c2<0)=false:=decide_eq_false hc
        have h9:nh=o.hi:=by rw [HNH.out,hd];rfl
        rw [h9] at HN2
        clear hd h9 HNH
        go_wp2
        go_roundw
        case rel=>exact ⟨i+1,_,_,_,_,by go_num,by omega,(fun _=>⟨_,HN2.out,rfl,rfl,rfl,rfl⟩),BW,RWk,RWk,RWk⟩
        case measure=>simp [RowKit.intOf];omega
    ·obtain rfl:m=i:=by omega
     obtain ⟨o,hkn,rfl,rfl,rfl,rfl⟩:=hk (by have:=HPOS.out;omega)
     rw [List.take_of_length_le (show l.length≤m by rw [HM.out];exact Nat.le_refl _)] at hkn
     have HKN:=Lib.hid hkn
     clear hkn hge him
     have sh:=RF3 rh
     have so:=RFz4 ro
     have sout:=RFz4 rout
     go_wp2_with fail
     have sB:=hB.size
     refine post_cut (fun X=>Below w.heap.size w X∧Row X (w.heap.size+1) (.cells #[.string (S o.lo.num),.string (S (o.lo.den:Int)),.string (S o.hi.num),.string (S (o.hi.den:Int))] 30)) ⟨BW,RWk⟩ ?_
     clear rh
     clear sh
     clear ro
     clear so
     clear rout
     clear sout
     clear hB sB
     rintro V4 ⟨hB,ro⟩
     have so:=RFz4 ro
     refine bodyPost_ret (v := .tuple #[.agg #[.string (S o.lo.num),.string (S (o.lo.den:Int)),.string (S o.hi.num),.string (S (o.hi.den:Int))],.int .i64 0]) ?res rfl ⟨.inl ⟨HF.out,o,HKN.out,rfl⟩,hB⟩
     case res=>simp [results,Tryz.results12, go_sem,so]
end Go.Proofs.YtnokpldomlmamaaGreatDoor
