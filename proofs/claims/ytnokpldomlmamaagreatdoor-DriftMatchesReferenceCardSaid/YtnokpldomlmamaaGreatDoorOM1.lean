/-
 The reference's Known at valid histories. Two strings are those of a fraction, or both functions Valid (the program's and the reference's) hand back false.
-/
import Derived.Test.YtnokpldomlmamaaGreatDoorOM7
import Derived.Test.YtnokpldomlmamaaGreatDoorOR12
import Derived.Test.YtnokpldomlmamaaGreatDoorOSane12
import Derived.Test.YtnokpldomlmamaaGreatDoorOTail
import Derived.Test.YtnokpldomlmamaaGreatDoorOTail4
set_option linter.unusedSimpArgs false
set_option linter.unusedVariables false
set_option maxRecDepth 100000
set_option maxHeartbeats 16000000
namespace Go.Proofs.YtnokpldomlmamaaGreatDoor
open Go Go.RowKit Go.Lib Go.Shelf
attribute [local go_sem] normalQ
theorem ptD_get' {l:List Pt} {i:Nat} (h:i<l.length):ptD l i=l[i]:=by unfold ptD;rw [List.getD_eq_getElem?_getD,List.getElem?_eq_getElem h];rfl
theorem ptD_take {l:List Pt} {i k:Nat} (h:i<k) (hi:i<l.length):ptD l i ∈ l.take k:=by
 have e:(l.take k)[i]'(by simp;omega)=l[i]:=List.getElem_take
 rw [ptD_get' hi,← e]
 exact List.getElem_mem _
theorem ptD_drop' {l:List Pt} {i k:Nat} (h:k≤i) (hi:i<l.length):ptD l i ∈ l.drop k:=by
 have e:l.drop i=(l.drop k).drop (i - k):=by rw [List.drop_drop];congr 1;omega
 exact List.mem_of_mem_drop (e ▸ ptD_drop hi)
theorem reads_one {W:World} {b:Nat} {u:Pt} (r:Row W b (.cells #[.int .i64 (u.t:Int),.string (S u.iv.lo.num),.string (S (u.iv.lo.den:Int)),.string (S u.iv.hi.num),.string (S (u.iv.hi.den:Int))] 32)):Reads W W.heap.size 5 (some ⟨b,0,none⟩) 1 (pC u) :=
 ⟨rfl,fun _=>⟨_,rfl,r.1,fun j x hx=>by rw [Addr.add_lit,Nat.zero_add];exact Row.cell_at r j (by simpa [pC] using hx)⟩⟩
/-- A new block, as a slice of one element. -/
def freshSl (n:Nat) (o:Obj):QSay:=fun v W=>∃ b,v = .slice (some ⟨b,0,none⟩) 1 1∧n≤b∧Row W b o
theorem freshSl_mono (n:Nat) (o:Obj):qMono (freshSl n o):=fun v W W' ⟨b,e,hb,hr⟩ hB=>⟨b,e,hb,Row.below hr hB⟩
theorem freshSl_new {w X:World} (h:Below w.heap.size w X) (o:Obj):freshSl w.heap.size o (.slice (some ⟨X.heap.size,0,none⟩) 1 1) (X.alloc o)∧Below X.heap.size X (X.alloc o):=⟨⟨X.heap.size,rfl,h.size,row_new _ _⟩,(Below.refl _ _).alloc (Nat.le_refl _) _⟩
theorem qib {p:Prop} (h:p:=by intro ρ X qX qc qg qf qt qd;simp [depsSay,itemSp,QItem.sp,Region.binds] at qd;simp [Region.wanted,yieldedBy,quietly,QItem.sp,execOp,go_sem,foreign,qc,qd,qt];exact freshSl_new qX _):p:=h
theorem r12known {r:Rat} {l:List Pt} (T:Int) (ho:Hist.Ok ⟨r,l⟩) (p:Option Addr) (m c:Nat) (hm:l.length=m) (w:World) (hp:PAt w p l):Calls Tryz.prog 17 #[.agg #[.string (S r.num),.string (S (r.den:Int)),.slice p m c],.int .i64 T] w (KnownOk r (l.take (upTo l T)) (upTo l T) w):=by
 have hB:Below w.heap.size w w:=Below.refl _ _
 have MV:=fun W (hp:PAt W p l)=>r12valid ho p m c hm W hp
 have hfew:=ho.few
 simp only [hm] at hfew
 have HP:=Lib.hid hp
 have HO:=Lib.hid ho
 have HM:=Lib.hid hm
 unfold BoolOk HV at MV
 simp only at MV
 unfold KnownOk
 obtain ⟨i0,hi0,hz0,hz1,hz2⟩:=info_parts pointInfo
 have hsp:=upTo_spec T l ho.sorted
 have hkm:=upTo_le l T
 rw [hm] at hkm
 generalize upTo l T=k at *
 have HUP:Hid (∀ i,i<k→i<l.length→((ptD l i).t:Int)≤T):=Lib.hid (fun i h h2=>hsp.1 _ (ptD_take h h2))
 have HDN:Hid (∀ i,k≤i→i<l.length→T<((ptD l i).t:Int)):=Lib.hid (fun i h h2=>hsp.2 _ (ptD_drop' h h2))
 clear ho hm hp hsp
 go_enter Tryz.func17, Tryz.ntmps17
 go_wp2_with fail
 have d0_o:w.heap.size≤w.heap.size+1:=by have:=hB.size;omega
 have sB:=hB.size
 refine world_cut (fun X=>Below w.heap.size w X∧Row X w.heap.size (.cells #[.string (S r.num),.string (S (r.den:Int)),.slice p m c] 26)∧Row X (w.heap.size+1) (.cells #[.string ⟨#[]⟩,.string ⟨#[]⟩,.slice none 0 0] 26)) ⟨BW,RWk,RWk⟩ ?_
 clear hB sB
 rintro V1 ⟨hB,rh,ro⟩
 have sh:=RF3 rh
 have so:=RFz3 ro
 refine (MV _ (HP.out.below hB)).mono ?_
 rintro e W2 ⟨rfl,h1⟩
 have stp:=St2 hB h1 rh ro;clear hB h1 rh sh ro so
 obtain ⟨hB,rh,ro⟩:=stp
 have sh:=RF3 rh
 have so:=RFz3 ro
 go_wp2_with fail
 have dh_out:w.heap.size<W2.heap.size:=by omega
 have do_out:w.heap.size+1<W2.heap.size:=by omega
 have d0_out:w.heap.size≤W2.heap.size:=by have:=hB.size;omega
 have sB:=hB.size
 refine wp_cut (fun X=>Below w.heap.size w X∧Row X w.heap.size (.cells #[.string (S r.num),.string (S (r.den:Int)),.slice p m c] 26)∧Row X (w.heap.size+1) (.cells #[.string ⟨#[]⟩,.string ⟨#[]⟩,.slice none 0 0] 26)∧Row X W2.heap.size (.cells #[.string (S r.num),.string (S (r.den:Int)),.slice none 0 0] 26)) ⟨BW,RWk,RWk,RWk⟩ ?_
 clear rh
 clear sh
 clear ro
 clear so
 clear hB sB
 rintro V3 ⟨hB,rh,ro,rout⟩
 have sh:=RF3 rh
 have so:=RFz3 ro
 have sout:=RFz3 rout
 obtain ⟨n1,hn1⟩:∃ n,n=V3.heap.size:=⟨_,rfl⟩
 generalize hob:W2.heap.size=ob at rout
 have hob1:ob<n1:=by rw [hn1];exact rout.1
 have hob2:w.heap.size+1<ob:=by omega
 clear hob
 have hnw:w.heap.size+1<n1:=by rw [hn1];exact ro.1
 have hsz:n1≤V3.heap.size:=by omega
 clear sh
 clear so
 clear sout
 clear hn1
 go_loopw [6] (fun v6 wr=>∃ (i j:Nat) (v:Value),v6 = .int .i64 (i:Int)∧i≤m∧j=min i k∧wr.ownsRow n1 32 5 v j (pCells (l.take j))∧n1≤wr.heap.size∧Below w.heap.size w wr∧Row wr ob (.cells #[.string (S r.num),.string (S (r.den:Int)),v] 26)∧Row wr w.heap.size (.cells #[.string (S r.num),.string (S (r.den:Int)),.slice p m c] 26)∧Row wr (w.heap.size+1) (.cells #[.string ⟨#[]⟩,.string ⟨#[]⟩,.slice none 0 0] 26)) (fun v6 _=>(m - RowKit.intOf v6).toNat)
 case atStart=>exact ⟨0,0,_,rfl,Nat.zero_le _,(Nat.zero_min _).symm,World.ownsRow_nil _ _ _ _,hsz,hB,rout,rh,ro⟩
 case round =>
  clear hB rh ro rout hsz
  obtain ⟨i,j,v,rfl,him,hj,hown,hsz,hB,rout,rh,ro⟩:=hrel
  obtain ⟨sA,sC,rfl⟩:=own_slice hown
  rcases Nat.lt_or_ge i m with hlt | hge
  ·have hil:i<l.length:=by rw [HM.out];exact hlt
   obtain ⟨u,hu⟩:∃ u,u=ptD l i:=⟨_,rfl⟩
   have hiI:(i:Int)<(m:Int):=by omega
   obtain ⟨g,cur,rfl,rg,g0,g1,g2,g3,g4⟩:=PAt.at (PAt.below HP.out hB) hil
   rw [← hu] at g0 g1 g2 g3 g4
   have htk:l.take (i+1)=l.take i ++ [u]:=by rw [hu];exact isLo_take (r:=r) (t:=0) hil
   have HTK:=Lib.hid htk
   clear htk
   by_cases hik:i<k
   ·have hut:(u.t:Int)≤T:=by rw [hu];exact HUP.out i hik hil
    obtain rfl:j=i:=by omega
    clear hu hj
    have sh:=RF3 rh
    have so:=RFz3 ro
    have sout:=RFz3 rout
    have Fg:∀ X,Row X g (.cells cur 32)→(g<X.heap.size∧X.cell? ⟨g,j * 5,none⟩=some (.int .i64 (u.t:Int))∧X.cell? ⟨g,j * 5+1,none⟩=some (.string (S u.iv.lo.num))∧X.cell? ⟨g,j * 5+2,none⟩=some (.string (S (u.iv.lo.den:Int)))∧X.cell? ⟨g,j * 5+3,none⟩=some (.string (S u.iv.hi.num))∧X.cell? ⟨g,j * 5+4,none⟩=some (.string (S (u.iv.hi.den:Int)))):=fun X h=>⟨h.1,Row.cell_at h _ g0,Row.cell_at h _ g1,Row.cell_at h _ g2,Row.cell_at h _ g3,Row.cell_at h _ g4⟩
    have sg:=Fg _ rg
    go_wp2_with fail
    refine wp_region_items3 8 [.val (.pointer (some ⟨ob,2,none⟩)),.val (.slice sA j sC),.val (.pointer (some ⟨w.heap.size,2,none⟩)),.val (.slice (some ⟨g,0,none⟩) m c),.val (.int .i64 (j:Int)),.val (.pointer (some ⟨g,j * 5,none⟩)),.val (.agg #[.int .i64 (u.t:Int),.string (S u.iv.lo.num),.string (S (u.iv.lo.den:Int)),.string (S u.iv.hi.num),.string (S (u.iv.hi.den:Int))]),.say (freshSl _ (.cells #[.int .i64 (u.t:Int),.string (S u.iv.lo.num),.string (S (u.iv.lo.den:Int)),.string (S u.iv.hi.num),.string (S (u.iv.hi.den:Int))] 32))] [] (by kernel_rfl) (by kernel_rfl) rfl ⟨freshSl_mono _ _,trivial⟩ (allItems.cons qi0 (allItems.cons (qi1 fun X h=>RFz3 (Row.below rout h)) (allItems.cons qi0 (allItems.cons (qi1 fun X h=>RF3 (Row.below rh h)) (allItems.cons qi0 (allItems.cons (qif hiI) (allItems.cons (qi1 fun X h=>Fg X (Row.below rg h)) (allItems.cons qib trivial)))))))) ?_
    rintro W h1
    replace hown:=own_later hown h1
    replace hsz:=le_below hsz h1
    have stp:=St4 hB h1 rh ro rout rg;clear hB h1 rh sh ro so rout sout rg sg
    obtain ⟨hB,rh,ro,rout,rg⟩:=stp
    have sh:=RF3 rh
    have so:=RFz3 ro
    have sout:=RFz3 rout
    have sg:=Fg _ rg
    simp only [setItems,List.setIfInBounds_toArray,List.set_cons_succ,List.set_cons_zero,List.take_succ_cons,List.take_zero,List.drop_succ_cons,List.drop_zero]
    rintro _ ⟨bs,rfl,hbs,rbs⟩
    intro _
    go_wp2_with (at_builtin;refine wpList_append_reads _ rfl (.tmp 30) (.tmp 36) 24 rfl n1 32 i0 (.agg #[.int .i64 0,.string ⟨#[]⟩,.string ⟨#[]⟩,.string ⟨#[]⟩,.string ⟨#[]⟩]) 5 72 Tryz.underlying24 hi0 hz0 hz1 hz2 rfl (by decide) (.slice sA j sC) j (pCells (l.take j)) rfl hown _ (some ⟨bs,0,none⟩) 1 1 (pC u) rfl (reads_one rbs) (by intro x hx;exact pCells_one [u] x (by simpa [pCells] using hx)) (by unfold maxLen;omega) (by omega) (by first | omega | (simp;omega)) ?_;intro v' W9 hown' hgrow';obtain ⟨sB,sD,rfl⟩:=own_slice hown';replace rh:=own_row_ne hown hgrow' rh (by omega);replace ro:=own_row_ne hown hgrow' ro (by omega);replace rout:=own_row_ne hown hgrow' rout (by omega);replace hB:=Below.grown hB hgrow' (by have:=hB.size;first | omega | (simp;omega)) (fun q hq=>by have:=(World.ownsRow.lt hown q hq).1;omega);replace hsz:n1≤W9.heap.size:=Nat.le_trans hsz hgrow'.size;have hown2:W9.ownsRow n1 32 5 (.slice sB (j+1) sD) (j+1) (pCells (l.take (j+1))):=(by rw [HTK.out,pCells_app,pCells_cons,pCells_nil,List.append_nil];exact hown');clear hown hown' hgrow' rg rbs;(try clear sh so sout sg);have sout:=RFz3 rout)
    go_roundw
    case rel=>exact ⟨j+1,j+1,.slice sB (j+1) sD,by go_num,by omega,by omega,OW,by simp;exact hsz,BW,RWk,RWk,RWk⟩
    case measure=>simp [RowKit.intOf];omega
   ·have hut:¬ ((u.t:Int)≤T):=by rw [hu];have:=HDN.out i (by omega) hil;omega
    obtain rfl:j=k:=by omega
    clear hu hj
    have sh:=RF3 rh
    have so:=RFz3 ro
    have sout:=RFz3 rout
    have Fg:∀ X,Row X g (.cells cur 32)→(g<X.heap.size∧X.cell? ⟨g,i * 5,none⟩=some (.int .i64 (u.t:Int))∧X.cell? ⟨g,i * 5+1,none⟩=some (.string (S u.iv.lo.num))∧X.cell? ⟨g,i * 5+2,none⟩=some (.string (S (u.iv.lo.den:Int)))∧X.cell? ⟨g,i * 5+3,none⟩=some (.string (S u.iv.hi.num))∧X.cell? ⟨g,i * 5+4,none⟩=some (.string (S (u.iv.hi.den:Int)))):=fun X h=>⟨h.1,Row.cell_at h _ g0,Row.cell_at h _ g1,Row.cell_at h _ g2,Row.cell_at h _ g3,Row.cell_at h _ g4⟩
    have sg:=Fg _ rg
    go_wp2
    go_roundw
    case rel=>exact ⟨i+1,j,_,by go_num,by omega,by omega,hown,hsz,BW,RWk,RWk,RWk⟩
    case measure=>simp [RowKit.intOf];omega
  ·obtain rfl:m=i:=by omega
   obtain rfl:j=k:=by omega
   clear hj
   have sh:=RF3 rh
   have so:=RFz3 ro
   have sout:=RFz3 rout
   go_wp2_with fail
   have sB:=hB.size
   refine post_cut (fun X=>Below w.heap.size w X∧Row X (w.heap.size+1) (.cells #[.string (S r.num),.string (S (r.den:Int)),.slice sA j sC] 26)∧X.ownsRow n1 32 5 (.slice sA j sC) j (pCells (l.take j))) ⟨BW,RWk,OW⟩ ?_
   clear rh
   clear sh
   clear ro
   clear so
   clear rout
   clear sout
   clear hB sB hown
   rintro V4 ⟨hB,ro,hown⟩
   have so:=RFz3 ro
   refine bodyPost_ret (v := .agg #[.string (S r.num),.string (S (r.den:Int)),.slice sA j sC]) ?res rfl ⟨sA,sC,own_at hown (by omega),rfl,hB⟩
   case res=>simp [results,Tryz.results17, go_sem,so]
end Go.Proofs.YtnokpldomlmamaaGreatDoor
namespace Go.Proofs.YtnokpldomlmamaaGreatDoor
open Go Go.RowKit Go.Lib Go.Shelf
def RatS (k:Nat) (a b:ByteArray) (q:Rat):Prop:=a=S q.num∧b=S (q.den:Int)∧QDig k q
theorem is_eqS {a:ByteArray} {x:Int} (h:Is a x):a=S x:=by
 obtain ⟨⟨d⟩⟩:=a
 unfold S
 have h':d=itoa x:=h
 rw [h']
theorem ratS_of {a b:ByteArray} {x y:Int} (ha:Is a x) (hb:Is b y) (fx:Fits x) (fy:Fits y) (h0:0<y) (hg:((x.natAbs.gcd y.natAbs:Nat):Int)=1):∃ q,RatS 200 a b q:=by
 obtain ⟨r1,r2⟩:=reduced_parts (n:=x) h0
 rw [hg,Int.ediv_one] at r1 r2
 exact ⟨Rat.divInt x y,by rw [r1];exact is_eqS ha,by rw [r2];exact is_eqS hb,by unfold Dig;rw [r1];exact fx,by unfold Dig;rw [r2];exact fy⟩
theorem Is.len {a:ByteArray} {x:Int} (h:Is a x):a.size=(if x<0 then 1 else 0)+(decDigits x.natAbs).length:=by rw [is_eqS h];exact S_len x
/-- A fraction of short strings has few digits. -/
theorem RatS.short {k:Nat} {a b:ByteArray} {q:Rat} (h:RatS 200 a b q) (hk:0<k) (ha:a.size≤k) (hb:b.size≤k):RatS k a b q:=by
 obtain ⟨h1,h2,_⟩:=h
 refine ⟨h1,h2,?_,?_⟩
 ·rw [h1,S_len] at ha
  exact (dec_lt _ k hk).1 (by omega)
 ·rw [h2,S_len,if_neg (by omega),Nat.zero_add] at hb
  exact (dec_lt _ k hk).1 hb
theorem qnot_a {a b:ByteArray} (V1:∀ W,Calls Tryz.prog 141 #[.string a] W (BoolOk false W)) (w:World):Calls Tryz.prog 58 #[.agg #[.string a,.string b]] w (BoolOk false w):=by
 have hB:Below w.heap.size w w:=Below.refl _ _
 have M1:=V1
 unfold BoolOk at *
 clear V1
 go_enter Tryz.func58, Tryz.ntmps58
 go_wp2_with fail
 have sB:=hB.size
 refine world_cut (fun X=>Below w.heap.size w X∧Row X w.heap.size (.cells #[.string a,.string b] 23)) ⟨BW,RWh⟩ ?_
 clear hB sB
 rintro V1 ⟨hB,rb0⟩
 have sb0:=RF2 rb0
 refine (M1 _).mono ?_
 rintro e W2 ⟨rfl,h1⟩
 have st:=St1 hB h1 rb0;clear hB h1 rb0 sb0
 obtain ⟨hB,rb0⟩:=st
 have sb0:=RF2 rb0
 go_wp2
 go_ret
 exact ⟨rfl,hB⟩
theorem qnot_b {a b:ByteArray} (V1:∀ W,Calls Tryz.prog 141 #[.string a] W (BoolOk true W)) (V2:∀ W,Calls Tryz.prog 141 #[.string b] W (BoolOk false W)) (w:World):Calls Tryz.prog 58 #[.agg #[.string a,.string b]] w (BoolOk false w):=by
 have hB:Below w.heap.size w w:=Below.refl _ _
 have M1:=V1
 have M2:=V2
 unfold BoolOk at *
 clear V1 V2
 go_enter Tryz.func58, Tryz.ntmps58
 go_wp2_with fail
 have sB:=hB.size
 refine world_cut (fun X=>Below w.heap.size w X∧Row X w.heap.size (.cells #[.string a,.string b] 23)) ⟨BW,RWh⟩ ?_
 clear hB sB
 rintro V1 ⟨hB,rb0⟩
 have sb0:=RF2 rb0
 refine (M1 _).mono ?_
 rintro e W2 ⟨rfl,h1⟩
 have st:=St1 hB h1 rb0;clear hB h1 rb0 sb0
 obtain ⟨hB,rb0⟩:=st
 have sb0:=RF2 rb0
 go_wp2_with fail
 refine (M2 _).mono ?_
 rintro e W3 ⟨rfl,h1⟩
 have st:=St1 hB h1 rb0;clear hB h1 rb0 sb0
 obtain ⟨hB,rb0⟩:=st
 have sb0:=RF2 rb0
 go_wp2
 go_ret
 exact ⟨rfl,hB⟩
theorem qnot_c {a b:ByteArray} {c:Int} (hc:c≤0) (V1:∀ W,Calls Tryz.prog 141 #[.string a] W (BoolOk true W)) (V2:∀ W,Calls Tryz.prog 141 #[.string b] W (BoolOk true W)) (V3:∀ W,Calls Tryz.prog 134 #[.string b,.string ⟨#[48]⟩] W (CmpOk c W)) (w:World):Calls Tryz.prog 58 #[.agg #[.string a,.string b]] w (BoolOk false w):=by
 have hB:Below w.heap.size w w:=Below.refl _ _
 have M1:=V1
 have M2:=V2
 have M3:=V3
 unfold BoolOk at *
 unfold CmpOk at M3
 have e1:decide (c≤0)=true:=decide_eq_true hc
 clear V1 V2 V3 hc
 go_enter Tryz.func58, Tryz.ntmps58
 go_wp2_with fail
 have sB:=hB.size
 refine world_cut (fun X=>Below w.heap.size w X∧Row X w.heap.size (.cells #[.string a,.string b] 23)) ⟨BW,RWh⟩ ?_
 clear hB sB
 rintro V1 ⟨hB,rb0⟩
 have sb0:=RF2 rb0
 refine (M1 _).mono ?_
 rintro e W2 ⟨rfl,h1⟩
 have st:=St1 hB h1 rb0;clear hB h1 rb0 sb0
 obtain ⟨hB,rb0⟩:=st
 have sb0:=RF2 rb0
 go_wp2_with fail
 refine (M2 _).mono ?_
 rintro e W3 ⟨rfl,h1⟩
 have st:=St1 hB h1 rb0;clear hB h1 rb0 sb0
 obtain ⟨hB,rb0⟩:=st
 have sb0:=RF2 rb0
 go_wp2_with fail
 refine (M3 _).mono ?_
 rintro e W4 ⟨rfl,h1⟩
 have st:=St1 hB h1 rb0;clear hB h1 rb0 sb0
 obtain ⟨hB,rb0⟩:=st
 have sb0:=RF2 rb0
 go_wp2
 go_ret
 exact ⟨rfl,hB⟩
theorem qnot_d {a b:ByteArray} {g:Int} (hg:g≠1) (V1:∀ W,Calls Tryz.prog 141 #[.string a] W (BoolOk true W)) (V2:∀ W,Calls Tryz.prog 141 #[.string b] W (BoolOk true W)) (V3:∀ W,Calls Tryz.prog 134 #[.string b,.string ⟨#[48]⟩] W (CmpOk 1 W)) (V4:∀ W,Env W→Calls Tryz.prog 142 #[.string a,.string b] W (StrOk g W)) (w:World) (he:Env w):Calls Tryz.prog 58 #[.agg #[.string a,.string b]] w (BoolOk false w):=by
 have hB:Below w.heap.size w w:=Below.refl _ _
 have M1:=V1
 have M2:=V2
 have M3:=V3
 have M4:=V4
 unfold BoolOk at *
 unfold CmpOk at M3
 unfold StrOk at M4
 have e1:((S g).toList == [49])=false:=by have:=S_ne hg;rw [S_list 1,show itoa 1=[49] by decide +kernel] at this;exact this
 generalize S g=sg at *
 clear V1 V2 V3 V4 hg
 go_enter Tryz.func58, Tryz.ntmps58
 go_wp2_with fail
 have sB:=hB.size
 refine world_cut (fun X=>Below w.heap.size w X∧Row X w.heap.size (.cells #[.string a,.string b] 23)) ⟨BW,RWh⟩ ?_
 clear hB sB
 rintro V1 ⟨hB,rb0⟩
 have sb0:=RF2 rb0
 refine (M1 _).mono ?_
 rintro e W2 ⟨rfl,h1⟩
 have st:=St1 hB h1 rb0;clear hB h1 rb0 sb0
 obtain ⟨hB,rb0⟩:=st
 have sb0:=RF2 rb0
 go_wp2_with fail
 refine (M2 _).mono ?_
 rintro e W3 ⟨rfl,h1⟩
 have st:=St1 hB h1 rb0;clear hB h1 rb0 sb0
 obtain ⟨hB,rb0⟩:=st
 have sb0:=RF2 rb0
 go_wp2_with fail
 refine (M3 _).mono ?_
 rintro e W4 ⟨rfl,h1⟩
 have st:=St1 hB h1 rb0;clear hB h1 rb0 sb0
 obtain ⟨hB,rb0⟩:=st
 have sb0:=RF2 rb0
 go_wp2_with fail
 clear rb0
 clear sb0
 refine (M4 _ (he.below hB)).mono ?_
 rintro e W5 ⟨rfl,h1⟩
 have st:=St0 hB h1;clear hB h1
 have hB:=st;clear st
 go_wp2
 go_ret
 exact ⟨rfl,hB⟩
theorem rqnot_a {a b:ByteArray} {c:Bool} (V1:∀ W,Calls Tryz.prog 143 #[.string a] W (BoolOk false W)) (V2:∀ W,Calls Tryz.prog 143 #[.string b] W (BoolOk c W)) (w:World):Calls Tryz.prog 61 #[.agg #[.string a,.string b]] w (BoolOk false w):=by
 have hB:Below w.heap.size w w:=Below.refl _ _
 have M1:=V1
 have M2:=V2
 unfold BoolOk at *
 clear V1 V2
 go_enter Tryz.func61, Tryz.ntmps61
 go_wp2_with fail
 have sB:=hB.size
 refine world_cut (fun X=>Below w.heap.size w X∧Row X w.heap.size (.cells #[.string a,.string b] 23)) ⟨BW,RWh⟩ ?_
 clear hB sB
 rintro V1 ⟨hB,rb0⟩
 have sb0:=RF2 rb0
 refine (M1 _).mono ?_
 rintro e W2 ⟨rfl,h1⟩
 have st:=St1 hB h1 rb0;clear hB h1 rb0 sb0
 obtain ⟨hB,rb0⟩:=st
 have sb0:=RF2 rb0
 go_wp2_with fail
 refine (M2 _).mono ?_
 rintro e W3 ⟨rfl,h1⟩
 have st:=St1 hB h1 rb0;clear hB h1 rb0 sb0
 obtain ⟨hB,rb0⟩:=st
 have sb0:=RF2 rb0
 go_wp2
 go_ret
 exact ⟨rfl,hB⟩
theorem rqnot_b {a b:ByteArray} (V1:∀ W,Calls Tryz.prog 143 #[.string a] W (BoolOk true W)) (V2:∀ W,Calls Tryz.prog 143 #[.string b] W (BoolOk false W)) (w:World):Calls Tryz.prog 61 #[.agg #[.string a,.string b]] w (BoolOk false w):=by
 have hB:Below w.heap.size w w:=Below.refl _ _
 have M1:=V1
 have M2:=V2
 unfold BoolOk at *
 clear V1 V2
 go_enter Tryz.func61, Tryz.ntmps61
 go_wp2_with fail
 have sB:=hB.size
 refine world_cut (fun X=>Below w.heap.size w X∧Row X w.heap.size (.cells #[.string a,.string b] 23)) ⟨BW,RWh⟩ ?_
 clear hB sB
 rintro V1 ⟨hB,rb0⟩
 have sb0:=RF2 rb0
 refine (M1 _).mono ?_
 rintro e W2 ⟨rfl,h1⟩
 have st:=St1 hB h1 rb0;clear hB h1 rb0 sb0
 obtain ⟨hB,rb0⟩:=st
 have sb0:=RF2 rb0
 go_wp2_with fail
 refine (M2 _).mono ?_
 rintro e W3 ⟨rfl,h1⟩
 have st:=St1 hB h1 rb0;clear hB h1 rb0 sb0
 obtain ⟨hB,rb0⟩:=st
 have sb0:=RF2 rb0
 go_wp2
 go_ret
 exact ⟨rfl,hB⟩
theorem rqnot_c {a b:ByteArray} {c:Int} (hc:c≤0) (V1:∀ W,Calls Tryz.prog 143 #[.string a] W (BoolOk true W)) (V2:∀ W,Calls Tryz.prog 143 #[.string b] W (BoolOk true W)) (V3:∀ W,Calls Tryz.prog 139 #[.string b,.string ⟨#[48]⟩] W (CmpOk c W)) (w:World):Calls Tryz.prog 61 #[.agg #[.string a,.string b]] w (BoolOk false w):=by
 have hB:Below w.heap.size w w:=Below.refl _ _
 have M1:=V1
 have M2:=V2
 have M3:=V3
 unfold BoolOk at *
 unfold CmpOk at M3
 have e1:decide (c≤0)=true:=decide_eq_true hc
 clear V1 V2 V3 hc
 go_enter Tryz.func61, Tryz.ntmps61
 go_wp2_with fail
 have sB:=hB.size
 refine world_cut (fun X=>Below w.heap.size w X∧Row X w.heap.size (.cells #[.string a,.string b] 23)) ⟨BW,RWh⟩ ?_
 clear hB sB
 rintro V1 ⟨hB,rb0⟩
 have sb0:=RF2 rb0
 refine (M1 _).mono ?_
 rintro e W2 ⟨rfl,h1⟩
 have st:=St1 hB h1 rb0;clear hB h1 rb0 sb0
 obtain ⟨hB,rb0⟩:=st
 have sb0:=RF2 rb0
 go_wp2_with fail
 refine (M2 _).mono ?_
 rintro e W3 ⟨rfl,h1⟩
 have st:=St1 hB h1 rb0;clear hB h1 rb0 sb0
 obtain ⟨hB,rb0⟩:=st
 have sb0:=RF2 rb0
 go_wp2_with fail
 refine (M3 _).mono ?_
 rintro e W4 ⟨rfl,h1⟩
 have st:=St1 hB h1 rb0;clear hB h1 rb0 sb0
 obtain ⟨hB,rb0⟩:=st
 have sb0:=RF2 rb0
 go_wp2
 go_ret
 exact ⟨rfl,hB⟩
theorem rqnot_d {a b:ByteArray} {g:Int} (hg:g≠1) (V1:∀ W,Calls Tryz.prog 143 #[.string a] W (BoolOk true W)) (V2:∀ W,Calls Tryz.prog 143 #[.string b] W (BoolOk true W)) (V3:∀ W,Calls Tryz.prog 139 #[.string b,.string ⟨#[48]⟩] W (CmpOk 1 W)) (V4:∀ W,Env W→Calls Tryz.prog 144 #[.string a,.string b] W (StrOk g W)) (w:World) (he:Env w):Calls Tryz.prog 61 #[.agg #[.string a,.string b]] w (BoolOk false w):=by
 have hB:Below w.heap.size w w:=Below.refl _ _
 have M1:=V1
 have M2:=V2
 have M3:=V3
 have M4:=V4
 unfold BoolOk at *
 unfold CmpOk at M3
 unfold StrOk at M4
 have e1:((S g).toList == [49])=false:=by have:=S_ne hg;rw [S_list 1,show itoa 1=[49] by decide +kernel] at this;exact this
 generalize S g=sg at *
 clear V1 V2 V3 V4 hg
 go_enter Tryz.func61, Tryz.ntmps61
 go_wp2_with fail
 have sB:=hB.size
 refine world_cut (fun X=>Below w.heap.size w X∧Row X w.heap.size (.cells #[.string a,.string b] 23)) ⟨BW,RWh⟩ ?_
 clear hB sB
 rintro V1 ⟨hB,rb0⟩
 have sb0:=RF2 rb0
 refine (M1 _).mono ?_
 rintro e W2 ⟨rfl,h1⟩
 have st:=St1 hB h1 rb0;clear hB h1 rb0 sb0
 obtain ⟨hB,rb0⟩:=st
 have sb0:=RF2 rb0
 go_wp2_with fail
 refine (M2 _).mono ?_
 rintro e W3 ⟨rfl,h1⟩
 have st:=St1 hB h1 rb0;clear hB h1 rb0 sb0
 obtain ⟨hB,rb0⟩:=st
 have sb0:=RF2 rb0
 go_wp2_with fail
 refine (M3 _).mono ?_
 rintro e W4 ⟨rfl,h1⟩
 have st:=St1 hB h1 rb0;clear hB h1 rb0 sb0
 obtain ⟨hB,rb0⟩:=st
 have sb0:=RF2 rb0
 go_wp2_with fail
 clear rb0
 clear sb0
 refine (M4 _ (he.below hB)).mono ?_
 rintro e W5 ⟨rfl,h1⟩
 have st:=St0 hB h1;clear hB h1
 have hB:=st;clear st
 go_wp2
 go_ret
 exact ⟨rfl,hB⟩
theorem rbool {c:Bool} {f:FuncId} {args:Array Value} {w:World} (h:Calls Tryz.prog f args w (RBool c w)):Calls Tryz.prog f args w (BoolOk c w):=h.mono fun _ _ h=>⟨h.1,by rw [h.2];exact Below.refl _ _⟩
/-- Both say no. -/
def NotRat (a b:ByteArray):Prop:=∀ W,Env W→Calls Tryz.prog 58 #[.agg #[.string a,.string b]] W (BoolOk false W)∧Calls Tryz.prog 61 #[.agg #[.string a,.string b]] W (BoolOk false W)
theorem rat_cases (a b:ByteArray) (hsa:Str a) (hsb:Str b):(∃ q,RatS 200 a b q)∨NotRat a b:=by
 by_cases h1:validB a.data.toList=true
 ·have v1:=fun W=>validS (Lib.hid h1) hsa W
  have w1:=fun W=>rbool (rvalid_yes h1 hsa W)
  by_cases h2:validB b.data.toList=true
  ·have v2:=fun W=>validS (Lib.hid h2) hsb W
   have w2:=fun W=>rbool (rvalid_yes h2 hsb W)
   obtain ⟨x,fx,ex⟩:=validB_elim _ h1
   obtain ⟨y,fy,ey⟩:=validB_elim _ h2
   have ix:Is a x:=ex
   have iy:Is b y:=ey
   by_cases h0:0<y
   ·by_cases hg:((x.natAbs.gcd y.natAbs:Nat):Int)=1
    ·exact .inl (ratS_of ix iy fx fy h0 hg)
    ·have c1:=fun W=>cmpS iy is_zero (Lib.hid (cmpZ_gt h0)) fy fits_zero W
     have d1:=fun W=>rcmpS iy is_zero (Lib.hid (cmpZ_gt h0)) fy fits_zero W
     exact .inr fun W he=>⟨qnot_d hg v1 v2 c1 (fun W he=>gcdS ix iy (Lib.hid rfl) fx fy W he) W he,rqnot_d hg w1 w2 d1 (fun W _=>rgcdS ix iy (Lib.hid rfl) fx fy W) W he⟩
   ·have hc:cmpZ y 0≤0:=by rcases Int.lt_or_le y 0 with h | h;(· rw [cmpZ_lt h];decide);(· rw [cmpZ_eq (by omega)];decide)
    exact .inr fun W he=>⟨qnot_c hc v1 v2 (fun W=>cmpS iy is_zero (Lib.hid rfl) fy fits_zero W) W,rqnot_c hc w1 w2 (fun W=>rcmpS iy is_zero (Lib.hid rfl) fy fits_zero W) W⟩
  ·have h2:validB b.data.toList=false:=by simpa using h2
   exact .inr fun W he=>⟨qnot_b v1 (fun W=>validS (Lib.hid h2) hsb W) W,rqnot_b w1 (fun W=>rbool (rvalid_not h2 hsb W)) W⟩
 ·have h1:validB a.data.toList=false:=by simpa using h1
  refine .inr fun W he=>⟨qnot_a (fun W=>validS (Lib.hid h1) hsa W) W,?_⟩
  by_cases h2:validB b.data.toList=true
  ·exact rqnot_a (fun W=>rbool (rvalid_not h1 hsa W)) (fun W=>rbool (rvalid_yes h2 hsb W)) W
  ·have h2:validB b.data.toList=false:=by simpa using h2
   exact rqnot_a (fun W=>rbool (rvalid_not h1 hsa W)) (fun W=>rbool (rvalid_not h2 hsb W)) W
theorem NotRat.prog {a b:ByteArray} (h:NotRat a b) (W:World) (he:Env W):Calls Tryz.prog 58 #[.agg #[.string a,.string b]] W (BoolOk false W):=(h W he).1
theorem NotRat.ref {a b:ByteArray} (h:NotRat a b) (W:World) (he:Env W):Calls Tryz.prog 61 #[.agg #[.string a,.string b]] W (BoolOk false W):=(h W he).2
end Go.Proofs.YtnokpldomlmamaaGreatDoor
