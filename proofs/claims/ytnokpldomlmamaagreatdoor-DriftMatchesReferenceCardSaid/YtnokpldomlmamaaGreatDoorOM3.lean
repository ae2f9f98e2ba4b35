/-
 Of strings that are no history both functions Valid (the program's and the reference's) say no.
-/
import Derived.Test.YtnokpldomlmamaaGreatDoorOMRaw
set_option linter.unusedSimpArgs false
set_option linter.unusedVariables false
set_option maxRecDepth 100000
set_option maxHeartbeats 16000000
namespace Go.Proofs.YtnokpldomlmamaaGreatDoor
open Go Go.RowKit Go.Lib Go.Shelf
theorem dvno_a {a b:ByteArray} (p:Option Addr) (n c:Nat) (MS:∀ W,Env W→Calls Tryz.prog 67 #[.agg #[.string a,.string b]] W (BoolOk false W)) (w:World) (he:Env w):Calls Tryz.prog 22 #[.agg #[.string a,.string b,.slice p n c]] w (BoolOk false w):=by
 have hB:Below w.heap.size w w:=Below.refl _ _
 have MM:=MS
 unfold BoolOk at *
 clear MS
 go_enter Tryz.func22, Tryz.ntmps22
 go_wp2_with fail
 have sB:=hB.size
 refine world_cut (fun X=>Below w.heap.size w X∧Row X w.heap.size (.cells #[.string a,.string b,.slice p n c] 26)) ⟨BW,RWh⟩ ?_
 clear hB sB
 rintro V1 ⟨hB,rh⟩
 have sh:=RF3 rh
 refine (MM _ (he.below hB)).mono ?_
 rintro e W2 ⟨rfl,h1⟩
 have st:=St1 hB h1 rh;clear hB h1 rh sh
 obtain ⟨hB,rh⟩:=st
 have sh:=RF3 rh
 go_wp2
 go_ret
 exact ⟨rfl,hB⟩
theorem dvno_b {a b:ByteArray} {cm:Int} (hc:cm<0) (p:Option Addr) (n c:Nat) (MS:∀ W,Env W→Calls Tryz.prog 67 #[.agg #[.string a,.string b]] W (BoolOk true W)) (MC:∀ W,Env W→Calls Tryz.prog 53 #[.agg #[.string a,.string b],.agg #[.string ⟨#[48]⟩,.string ⟨#[49]⟩]] W (CmpOk cm W)) (w:World) (he:Env w):Calls Tryz.prog 22 #[.agg #[.string a,.string b,.slice p n c]] w (BoolOk false w):=by
 have hB:Below w.heap.size w w:=Below.refl _ _
 have M1:=MS
 have M2:=MC
 unfold BoolOk at *
 unfold CmpOk at M2
 have hc0:decide (cm<0)=true:=decide_eq_true hc
 clear MS MC hc
 go_enter Tryz.func22, Tryz.ntmps22
 go_wp2_with fail
 have sB:=hB.size
 refine world_cut (fun X=>Below w.heap.size w X∧Row X w.heap.size (.cells #[.string a,.string b,.slice p n c] 26)) ⟨BW,RWh⟩ ?_
 clear hB sB
 rintro V1 ⟨hB,rh⟩
 have sh:=RF3 rh
 refine (M1 _ (he.below hB)).mono ?_
 rintro e W2 ⟨rfl,h1⟩
 have st:=St1 hB h1 rh;clear hB h1 rh sh
 obtain ⟨hB,rh⟩:=st
 have sh:=RF3 rh
 go_wp2_with fail
 refine (M2 _ (he.below hB)).mono ?_
 rintro e W3 ⟨rfl,h1⟩
 have st:=St1 hB h1 rh;clear hB h1 rh sh
 obtain ⟨hB,rh⟩:=st
 have sh:=RF3 rh
 go_wp2
 go_ret
 exact ⟨rfl,hB⟩
theorem dvno_c {a b:ByteArray} {cm:Int} (hc:0≤cm) {l:List RP} (p:Option Addr) (n c:Nat) (hn:l.length=n) (hfew:n≤64) (hst:∀ x,x ∈ l→RStr x) (hno:∀ t,¬ UpG l n t) (MS:∀ W,Env W→Calls Tryz.prog 67 #[.agg #[.string a,.string b]] W (BoolOk true W)) (MC:∀ W,Env W→Calls Tryz.prog 53 #[.agg #[.string a,.string b],.agg #[.string ⟨#[48]⟩,.string ⟨#[49]⟩]] W (CmpOk cm W)) (w:World) (hp:RAt w p l) (he:Env w):Calls Tryz.prog 22 #[.agg #[.string a,.string b,.slice p n c]] w (BoolOk false w):=by
 have hB:Below w.heap.size w w:=Below.refl _ _
 have MR:=MS
 have MD:=MC
 unfold BoolOk
 unfold BoolOk at MR
 unfold CmpOk at MD
 have hc0:decide (cm<0)=false:=decide_eq_false (by omega)
 have HP:=Lib.hid hp
 have HST:=Lib.hid hst
 have HK:=Lib.hid hno
 have HN:=Lib.hid hn
 clear MS MC hc hp hst hno hn
 go_enter Tryz.func22, Tryz.ntmps22
 go_wp2_with fail
 have sB:=hB.size
 refine world_cut (fun X=>Below w.heap.size w X∧Row X w.heap.size (.cells #[.string a,.string b,.slice p n c] 26)) ⟨BW,RWh⟩ ?_
 clear hB sB
 rintro V1 ⟨hB,rh⟩
 have sh:=RF3 rh
 refine (MR _ (he.below hB)).mono ?_
 rintro e W2 ⟨rfl,h1⟩
 have st:=St1 hB h1 rh;clear hB h1 rh sh
 obtain ⟨hB,rh⟩:=st
 have sh:=RF3 rh
 go_wp2_with fail
 refine (MD _ (he.below hB)).mono ?_
 rintro e W3 ⟨rfl,h1⟩
 have st:=St1 hB h1 rh;clear hB h1 rh sh
 obtain ⟨hB,rh⟩:=st
 have sh:=RF3 rh
 go_wp2_with fail
 clear rh
 clear sh
 go_loopw [3,26] (fun v3 v26 wr=>∃ i t:Nat,v26 = .int .i64 (i:Int)∧v3 = .int .i64 (t:Int)∧i≤n∧UpG l i t∧Below w.heap.size w wr) (fun _ v26 _=>(n - RowKit.intOf v26).toNat)
 case atStart=>exact ⟨0,0,rfl,rfl,by omega,UpG.zero l,hB⟩
 case round =>
  clear hB
  obtain ⟨i,t,rfl,rfl,hin,hug,hB⟩:=hrel
  rcases Nat.lt_or_ge i n with hlt | hge
  ·have hil:i<l.length:=by rw [HN.out];exact hlt
   obtain ⟨x,hx⟩:∃ x,x=rpD l i:=⟨_,rfl⟩
   have hs:=HST.out x (hx ▸ rpD_mem hil)
   obtain ⟨u0,i0,MV,MV'⟩:=iv_any x.a x.b x.c x.d hs.2.1 hs.2.2.1 hs.2.2.2.1 hs.2.2.2.2
   obtain ⟨u1,v1,i1,M1,M1'⟩:=sh_any x.a x.b hs.2.1 hs.2.2.1
   obtain ⟨u2,v2,i2,M2,M2'⟩:=sh_any x.c x.d hs.2.2.2.1 hs.2.2.2.2
   clear hs
   clear M1' M2' MV'
   by_cases c1:x.t<(t:Int)
   ·obtain ⟨g,cur,rfl,rg,g0,g1,g2,g3,g4⟩:=RAt.at (RAt.below HP.out hB) hil
    rw [← hx] at g0 g1 g2 g3 g4
    have Fg:∀ X,Row X g (.cells cur 32)→(g<X.heap.size∧X.cell? ⟨g,i * 5,none⟩=some (.int .i64 x.t)∧X.cell? ⟨g,i * 5+1,none⟩=some (.string x.a)∧X.cell? ⟨g,i * 5+2,none⟩=some (.string x.b)∧X.cell? ⟨g,i * 5+3,none⟩=some (.string x.c)∧X.cell? ⟨g,i * 5+4,none⟩=some (.string x.d)):=fun X h=>⟨h.1,Row.cell_at h _ g0,Row.cell_at h _ g1,Row.cell_at h _ g2,Row.cell_at h _ g3,Row.cell_at h _ g4⟩
    have sg:=Fg _ rg
    unfold BoolOk at MV M1 M2
    have hi:(i:Int)<(n:Int):=by omega
    clear hx
    clear i0 i1 i2 hug
    have sB:=hB.size
    go_wp2
    go_ret
    exact ⟨rfl,BW⟩
   ·by_cases c2:1000000<x.t
    ·obtain ⟨g,cur,rfl,rg,g0,g1,g2,g3,g4⟩:=RAt.at (RAt.below HP.out hB) hil
     rw [← hx] at g0 g1 g2 g3 g4
     have Fg:∀ X,Row X g (.cells cur 32)→(g<X.heap.size∧X.cell? ⟨g,i * 5,none⟩=some (.int .i64 x.t)∧X.cell? ⟨g,i * 5+1,none⟩=some (.string x.a)∧X.cell? ⟨g,i * 5+2,none⟩=some (.string x.b)∧X.cell? ⟨g,i * 5+3,none⟩=some (.string x.c)∧X.cell? ⟨g,i * 5+4,none⟩=some (.string x.d)):=fun X h=>⟨h.1,Row.cell_at h _ g0,Row.cell_at h _ g1,Row.cell_at h _ g2,Row.cell_at h _ g3,Row.cell_at h _ g4⟩
     have sg:=Fg _ rg
     unfold BoolOk at MV M1 M2
     have hi:(i:Int)<(n:Int):=by omega
     clear hx
     clear i0 i1 i2 hug
     have sB:=hB.size
     go_wp2
     go_ret
     exact ⟨rfl,BW⟩
    ·cases u0
     ·obtain ⟨g,cur,rfl,rg,g0,g1,g2,g3,g4⟩:=RAt.at (RAt.below HP.out hB) hil
      rw [← hx] at g0 g1 g2 g3 g4
      have Fg:∀ X,Row X g (.cells cur 32)→(g<X.heap.size∧X.cell? ⟨g,i * 5,none⟩=some (.int .i64 x.t)∧X.cell? ⟨g,i * 5+1,none⟩=some (.string x.a)∧X.cell? ⟨g,i * 5+2,none⟩=some (.string x.b)∧X.cell? ⟨g,i * 5+3,none⟩=some (.string x.c)∧X.cell? ⟨g,i * 5+4,none⟩=some (.string x.d)):=fun X h=>⟨h.1,Row.cell_at h _ g0,Row.cell_at h _ g1,Row.cell_at h _ g2,Row.cell_at h _ g3,Row.cell_at h _ g4⟩
      have sg:=Fg _ rg
      unfold BoolOk at MV M1 M2
      have hi:(i:Int)<(n:Int):=by omega
      clear hx
      clear i0 i1 i2 hug
      go_wp2_with fail
      have sB:=hB.size
      refine world_cut (fun X=>Below w.heap.size w X∧Row X g (.cells cur 32)∧Row X wr.heap.size (.cells #[.int .i64 x.t,.string x.a,.string x.b,.string x.c,.string x.d] 32)) ⟨BW,RWh,RWh⟩ ?_
      clear rg
      clear sg
      clear hB sB
      rintro V4 ⟨hB,rg,rp⟩
      have sg:=Fg _ rg
      have sp:=RF5 rp
      refine (MV _ (he.below hB)).mono ?_
      rintro e W5 ⟨rfl,h1⟩
      have st:=St2 hB h1 rg rp;clear hB h1 rg sg rp sp
      obtain ⟨hB,rg,rp⟩:=st
      have sg:=Fg _ rg
      have sp:=RF5 rp
      have sB:=hB.size
      go_wp2
      go_ret
      exact ⟨rfl,BW⟩
     ·cases u1
      ·obtain ⟨g,cur,rfl,rg,g0,g1,g2,g3,g4⟩:=RAt.at (RAt.below HP.out hB) hil
       rw [← hx] at g0 g1 g2 g3 g4
       have Fg:∀ X,Row X g (.cells cur 32)→(g<X.heap.size∧X.cell? ⟨g,i * 5,none⟩=some (.int .i64 x.t)∧X.cell? ⟨g,i * 5+1,none⟩=some (.string x.a)∧X.cell? ⟨g,i * 5+2,none⟩=some (.string x.b)∧X.cell? ⟨g,i * 5+3,none⟩=some (.string x.c)∧X.cell? ⟨g,i * 5+4,none⟩=some (.string x.d)):=fun X h=>⟨h.1,Row.cell_at h _ g0,Row.cell_at h _ g1,Row.cell_at h _ g2,Row.cell_at h _ g3,Row.cell_at h _ g4⟩
       have sg:=Fg _ rg
       unfold BoolOk at MV M1 M2
       have hi:(i:Int)<(n:Int):=by omega
       clear hx
       clear i0 i1 i2 hug
       go_wp2_with fail
       have sB:=hB.size
       refine world_cut (fun X=>Below w.heap.size w X∧Row X g (.cells cur 32)∧Row X wr.heap.size (.cells #[.int .i64 x.t,.string x.a,.string x.b,.string x.c,.string x.d] 32)) ⟨BW,RWh,RWh⟩ ?_
       clear rg
       clear sg
       clear hB sB
       rintro V4 ⟨hB,rg,rp⟩
       have sg:=Fg _ rg
       have sp:=RF5 rp
       refine (MV _ (he.below hB)).mono ?_
       rintro e W5 ⟨rfl,h1⟩
       have st:=St2 hB h1 rg rp;clear hB h1 rg sg rp sp
       obtain ⟨hB,rg,rp⟩:=st
       have sg:=Fg _ rg
       have sp:=RF5 rp
       go_wp2_with fail
       refine (M1 _ (he.below hB)).mono ?_
       rintro e W6 ⟨rfl,h1⟩
       have st:=St2 hB h1 rg rp;clear hB h1 rg sg rp sp
       obtain ⟨hB,rg,rp⟩:=st
       have sg:=Fg _ rg
       have sp:=RF5 rp
       have sB:=hB.size
       go_wp2
       go_ret
       exact ⟨rfl,BW⟩
      ·cases u2
       ·obtain ⟨g,cur,rfl,rg,g0,g1,g2,g3,g4⟩:=RAt.at (RAt.below HP.out hB) hil
        rw [← hx] at g0 g1 g2 g3 g4
        have Fg:∀ X,Row X g (.cells cur 32)→(g<X.heap.size∧X.cell? ⟨g,i * 5,none⟩=some (.int .i64 x.t)∧X.cell? ⟨g,i * 5+1,none⟩=some (.string x.a)∧X.cell? ⟨g,i * 5+2,none⟩=some (.string x.b)∧X.cell? ⟨g,i * 5+3,none⟩=some (.string x.c)∧X.cell? ⟨g,i * 5+4,none⟩=some (.string x.d)):=fun X h=>⟨h.1,Row.cell_at h _ g0,Row.cell_at h _ g1,Row.cell_at h _ g2,Row.cell_at h _ g3,Row.cell_at h _ g4⟩
        have sg:=Fg _ rg
        unfold BoolOk at MV M1 M2
        have hi:(i:Int)<(n:Int):=by omega
        clear hx
        clear i0 i1 i2 hug
        go_wp2_with fail
        have sB:=hB.size
        refine world_cut (fun X=>Below w.heap.size w X∧Row X g (.cells cur 32)∧Row X wr.heap.size (.cells #[.int .i64 x.t,.string x.a,.string x.b,.string x.c,.string x.d] 32)) ⟨BW,RWh,RWh⟩ ?_
        clear rg
        clear sg
        clear hB sB
        rintro V4 ⟨hB,rg,rp⟩
        have sg:=Fg _ rg
        have sp:=RF5 rp
        refine (MV _ (he.below hB)).mono ?_
        rintro e W5 ⟨rfl,h1⟩
        have st:=St2 hB h1 rg rp;clear hB h1 rg sg rp sp
        obtain ⟨hB,rg,rp⟩:=st
        have sg:=Fg _ rg
        have sp:=RF5 rp
        go_wp2_with fail
        refine (M1 _ (he.below hB)).mono ?_
        rintro e W6 ⟨rfl,h1⟩
        have st:=St2 hB h1 rg rp;clear hB h1 rg sg rp sp
        obtain ⟨hB,rg,rp⟩:=st
        have sg:=Fg _ rg
        have sp:=RF5 rp
        go_wp2_with fail
        refine (M2 _ (he.below hB)).mono ?_
        rintro e W7 ⟨rfl,h1⟩
        have st:=St2 hB h1 rg rp;clear hB h1 rg sg rp sp
        obtain ⟨hB,rg,rp⟩:=st
        have sg:=Fg _ rg
        have sp:=RF5 rp
        have sB:=hB.size
        go_wp2
        go_ret
        exact ⟨rfl,BW⟩
       ·have hpg:ptG x:=ptG_of (by omega) (by omega) (i0.1 rfl) (i1.1 rfl) (i2.1 rfl)
        obtain ⟨tn,htn⟩:∃ tn:Nat,x.t=(tn:Int):=⟨x.t.toNat,by omega⟩
        have HT:=Lib.hid htn
        have HUG:UpG l (i+1) tn:=hug.succ (by rw [← hx];exact htn) (by omega) (by rw [← hx];exact hpg)
        clear htn hpg i0 i1 i2 hug
        obtain ⟨g,cur,rfl,rg,g0,g1,g2,g3,g4⟩:=RAt.at (RAt.below HP.out hB) hil
        rw [← hx] at g0 g1 g2 g3 g4
        have Fg:∀ X,Row X g (.cells cur 32)→(g<X.heap.size∧X.cell? ⟨g,i * 5,none⟩=some (.int .i64 x.t)∧X.cell? ⟨g,i * 5+1,none⟩=some (.string x.a)∧X.cell? ⟨g,i * 5+2,none⟩=some (.string x.b)∧X.cell? ⟨g,i * 5+3,none⟩=some (.string x.c)∧X.cell? ⟨g,i * 5+4,none⟩=some (.string x.d)):=fun X h=>⟨h.1,Row.cell_at h _ g0,Row.cell_at h _ g1,Row.cell_at h _ g2,Row.cell_at h _ g3,Row.cell_at h _ g4⟩
        have sg:=Fg _ rg
        unfold BoolOk at MV M1 M2
        have hi:(i:Int)<(n:Int):=by omega
        clear hx
        go_wp2_with fail
        have sB:=hB.size
        refine world_cut (fun X=>Below w.heap.size w X∧Row X g (.cells cur 32)∧Row X wr.heap.size (.cells #[.int .i64 x.t,.string x.a,.string x.b,.string x.c,.string x.d] 32)) ⟨BW,RWh,RWh⟩ ?_
        clear rg
        clear sg
        clear hB sB
        rintro V4 ⟨hB,rg,rp⟩
        have sg:=Fg _ rg
        have sp:=RF5 rp
        refine (MV _ (he.below hB)).mono ?_
        rintro e W5 ⟨rfl,h1⟩
        have st:=St2 hB h1 rg rp;clear hB h1 rg sg rp sp
        obtain ⟨hB,rg,rp⟩:=st
        have sg:=Fg _ rg
        have sp:=RF5 rp
        go_wp2_with fail
        refine (M1 _ (he.below hB)).mono ?_
        rintro e W6 ⟨rfl,h1⟩
        have st:=St2 hB h1 rg rp;clear hB h1 rg sg rp sp
        obtain ⟨hB,rg,rp⟩:=st
        have sg:=Fg _ rg
        have sp:=RF5 rp
        go_wp2_with fail
        refine (M2 _ (he.below hB)).mono ?_
        rintro e W7 ⟨rfl,h1⟩
        have st:=St2 hB h1 rg rp;clear hB h1 rg sg rp sp
        obtain ⟨hB,rg,rp⟩:=st
        have sg:=Fg _ rg
        have sp:=RF5 rp
        go_wp2
        go_roundw
        case rel=>exact ⟨i+1,tn,by go_num,by rw [HT.out],by omega,HUG,BW⟩
        case measure=>simp [RowKit.intOf];omega
  ·obtain rfl:i=n:=by omega
   exact absurd hug (HK.out t)
theorem rdvno_a {a b:ByteArray} {v:Bool} (p:Option Addr) (n c:Nat) (MS:∀ W,Env W→Calls Tryz.prog 69 #[.agg #[.string a,.string b]] W (ShOk false v W)) (w:World) (he:Env w):Calls Tryz.prog 23 #[.agg #[.string a,.string b,.slice p n c]] w (BoolOk false w):=by
 have hB:Below w.heap.size w w:=Below.refl _ _
 have MM:=MS
 unfold BoolOk
 unfold ShOk at MM
 clear MS
 go_enter Tryz.func23, Tryz.ntmps23
 go_wp2_with fail
 have sB:=hB.size
 refine world_cut (fun X=>Below w.heap.size w X∧Row X w.heap.size (.cells #[.string a,.string b,.slice p n c] 26)) ⟨BW,RWh⟩ ?_
 clear hB sB
 rintro V1 ⟨hB,rh⟩
 have sh:=RF3 rh
 refine (MM _ (he.below hB)).mono ?_
 rintro e W2 ⟨rfl,h1⟩
 have st:=St1 hB h1 rh;clear hB h1 rh sh
 obtain ⟨hB,rh⟩:=st
 have sh:=RF3 rh
 go_wp2_with fail
 refine wp_region_vals [.bool false,.bool true,.bool true,undef,undef,undef,undef,undef,.bool true,.bool true,undef,undef,undef,undef,.bool true] (by kernel_rfl) (by kernel_rfl) rfl (allVals.cons qv0 (allVals.cons qv0 (allVals.cons qv0 (allVals.cons qv0 (allVals.cons qv0 (allVals.cons qv0 (allVals.cons qv0 (allVals.cons qv0 (allVals.cons qv0 (allVals.cons qv0 (allVals.cons qv0 (allVals.cons qv0 (allVals.cons qv0 (allVals.cons qv0 (allVals.cons qv0 trivial))))))))))))))) ?_
 rintro W h1
 have st:=St1 hB h1 rh;clear hB h1 rh sh
 obtain ⟨hB,rh⟩:=st
 have sh:=RF3 rh
 simp only [setVals,List.setIfInBounds_toArray,List.set_cons_succ,List.set_cons_zero]
 go_wp2
 go_ret
 exact ⟨rfl,hB⟩
theorem rdvno_b {a b:ByteArray} {v:Bool} {cm:Int} (hc:cm<0) (p:Option Addr) (n c:Nat) (MS:∀ W,Env W→Calls Tryz.prog 69 #[.agg #[.string a,.string b]] W (ShOk true v W)) (MC:∀ W,Env W→Calls Tryz.prog 56 #[.agg #[.string a,.string b],.agg #[.string ⟨#[48]⟩,.string ⟨#[49]⟩]] W (CmpOk cm W)) (w:World) (he:Env w):Calls Tryz.prog 23 #[.agg #[.string a,.string b,.slice p n c]] w (BoolOk false w):=by
 have hB:Below w.heap.size w w:=Below.refl _ _
 have M1:=MS
 have M2:=MC
 have MZ:=fun W=>r12zero W
 unfold BoolOk
 unfold ShOk at M1
 unfold CmpOk at M2
 clear MS MC
 go_enter Tryz.func23, Tryz.ntmps23
 go_wp2_with fail
 have sB:=hB.size
 refine world_cut (fun X=>Below w.heap.size w X∧Row X w.heap.size (.cells #[.string a,.string b,.slice p n c] 26)) ⟨BW,RWh⟩ ?_
 clear hB sB
 rintro V1 ⟨hB,rh⟩
 have sh:=RF3 rh
 refine (M1 _ (he.below hB)).mono ?_
 rintro e W2 ⟨rfl,h1⟩
 have st:=St1 hB h1 rh;clear hB h1 rh sh
 obtain ⟨hB,rh⟩:=st
 have sh:=RF3 rh
 go_wp2_with fail
 refine wp_region_vals [.bool true,.bool false,.bool false,.pointer (some ⟨w.heap.size,0,none⟩),.agg #[.string a,.string b],.agg #[.string ⟨#[48]⟩,.string ⟨#[49]⟩],.int .i64 cm,.bool true,.bool true,.bool true,undef,undef,undef,undef,.bool true] (by kernel_rfl) (by kernel_rfl) rfl (allVals.cons qv0 (allVals.cons (qvf hc) (allVals.cons qv0 (allVals.cons qv0 (allVals.cons (qv1 fun X h=>RF3 (Row.below rh h)) (allVals.cons (qv2 fun X h=>MZ X) (allVals.cons (qv2 fun X h=>M2 X (he.below (hB.trans (h.mono hB.size)))) (allVals.cons (qvf hc) (allVals.cons (qvf hc) (allVals.cons qv0 (allVals.cons qv0 (allVals.cons qv0 (allVals.cons qv0 (allVals.cons qv0 (allVals.cons (qvf hc) trivial))))))))))))))) ?_
 rintro W h1
 have st:=St1 hB h1 rh;clear hB h1 rh sh
 obtain ⟨hB,rh⟩:=st
 have sh:=RF3 rh
 simp only [setVals,List.setIfInBounds_toArray,List.set_cons_succ,List.set_cons_zero]
 go_wp2
 go_ret
 exact ⟨rfl,hB⟩
theorem rdvno_c {a b:ByteArray} {v:Bool} {cm:Int} (hc:0≤cm) {l:List RP} (p:Option Addr) (n c:Nat) (hn:l.length=n) (hfew:n≤64) (hst:∀ x,x ∈ l→RStr x) (hno:∀ t,¬ UpG l n t) (MS:∀ W,Env W→Calls Tryz.prog 69 #[.agg #[.string a,.string b]] W (ShOk true v W)) (MC:∀ W,Env W→Calls Tryz.prog 56 #[.agg #[.string a,.string b],.agg #[.string ⟨#[48]⟩,.string ⟨#[49]⟩]] W (CmpOk cm W)) (w:World) (hp:RAt w p l) (he:Env w):Calls Tryz.prog 23 #[.agg #[.string a,.string b,.slice p n c]] w (BoolOk false w):=by
 have hB:Below w.heap.size w w:=Below.refl _ _
 have MR:=MS
 have MD:=MC
 have MZ:=fun W=>r12zero W
 unfold BoolOk
 unfold ShOk at MR
 unfold CmpOk at MD
 have hud:undef=Value.tuple #[]:=rfl
 have hc0:¬ (cm<0):=by omega
 have hfew2:(n:Int)≤64:=by omega
 have hfx:=And.intro hc (And.intro hfew hfew2)
 have HP:=Lib.hid hp
 have HST:=Lib.hid hst
 have HK:=Lib.hid hno
 have HN:=Lib.hid hn
 clear MS MC hp hst hno hn
 go_enter Tryz.func23, Tryz.ntmps23
 go_wp2_with fail
 have sB:=hB.size
 refine world_cut (fun X=>Below w.heap.size w X∧Row X w.heap.size (.cells #[.string a,.string b,.slice p n c] 26)) ⟨BW,RWh⟩ ?_
 clear hB sB
 rintro V1 ⟨hB,rh⟩
 have sh:=RF3 rh
 refine (MR _ (he.below hB)).mono ?_
 rintro e W2 ⟨rfl,h1⟩
 have st:=St1 hB h1 rh;clear hB h1 rh sh
 obtain ⟨hB,rh⟩:=st
 have sh:=RF3 rh
 go_wp2_with fail
 refine wp_region_vals [.bool true,.bool false,.bool false,.pointer (some ⟨w.heap.size,0,none⟩),.agg #[.string a,.string b],.agg #[.string ⟨#[48]⟩,.string ⟨#[49]⟩],.int .i64 cm,.bool false,.bool false,.bool false,.pointer (some ⟨w.heap.size,2,none⟩),.slice p n c,.int .i64 (n:Int),.bool false,.bool false] (by kernel_rfl) (by kernel_rfl) rfl (allVals.cons qv0 (allVals.cons (qvf hfx) (allVals.cons qv0 (allVals.cons qv0 (allVals.cons (qv1 fun X h=>RF3 (Row.below rh h)) (allVals.cons (qv2 fun X h=>MZ X) (allVals.cons (qv2 fun X h=>MD X (he.below (hB.trans (h.mono hB.size)))) (allVals.cons (qvf hfx) (allVals.cons (qvf hfx) (allVals.cons qv0 (allVals.cons qv0 (allVals.cons (qv1 fun X h=>RF3 (Row.below rh h)) (allVals.cons (qvf hfx) (allVals.cons (qvf hfx) (allVals.cons (qvf hfx) trivial))))))))))))))) ?_
 rintro W h1
 have st:=St1 hB h1 rh;clear hB h1 rh sh
 obtain ⟨hB,rh⟩:=st
 have sh:=RF3 rh
 simp only [setVals,List.setIfInBounds_toArray,List.set_cons_succ,List.set_cons_zero]
 go_wp2_with fail
 go_loopw [5] (fun v5 wr=>∃ i t:Nat,v5 = .int .i64 (i:Int)∧i≤n∧UpG l i t∧(i=0→t=0)∧(∀ j,i=j+1→(rpD l j).t=(t:Int))∧Below w.heap.size w wr∧Row wr w.heap.size (.cells #[.string a,.string b,.slice p n c] 26)) (fun v5 _=>(n - RowKit.intOf v5).toNat)
 case atStart=>exact ⟨0,0,rfl,Nat.zero_le _,UpG.zero l,fun _=>rfl,fun j h=>absurd h (by omega),hB,rh⟩
 case round =>
  clear sh
  clear hB rh
  obtain ⟨i,t,rfl,hin,hug,hz,hz2,hB,rh⟩:=hrel
  rcases Nat.lt_or_ge i n with hlt | hge
  ·have hil:i<l.length:=by rw [HN.out];exact hlt
   obtain ⟨x,hx⟩:∃ x,x=rpD l i:=⟨_,rfl⟩
   have hs:=HST.out x (hx ▸ rpD_mem hil)
   obtain ⟨u0,i0,MV,MV'⟩:=iv_any x.a x.b x.c x.d hs.2.1 hs.2.2.1 hs.2.2.2.1 hs.2.2.2.2
   obtain ⟨u1,v1,i1,M1,M1'⟩:=sh_any x.a x.b hs.2.1 hs.2.2.1
   obtain ⟨u2,v2,i2,M2,M2'⟩:=sh_any x.c x.d hs.2.2.2.1 hs.2.2.2.2
   clear hs
   clear MV M1 M2
   have MV:=MV'
   have M1:=M1'
   have M2:=M2'
   clear MV' M1' M2'
   cases u0
   ·obtain ⟨g,cur,rfl,rg,g0,g1,g2,g3,g4⟩:=RAt.at (RAt.below HP.out hB) hil
    rw [← hx] at g0 g1 g2 g3 g4
    have sh:=RF3 rh
    have Fg:∀ X,Row X g (.cells cur 32)→(g<X.heap.size∧X.cell? ⟨g,i * 5,none⟩=some (.int .i64 x.t)∧X.cell? ⟨g,i * 5+1,none⟩=some (.string x.a)∧X.cell? ⟨g,i * 5+2,none⟩=some (.string x.b)∧X.cell? ⟨g,i * 5+3,none⟩=some (.string x.c)∧X.cell? ⟨g,i * 5+4,none⟩=some (.string x.d)):=fun X h=>⟨h.1,Row.cell_at h _ g0,Row.cell_at h _ g1,Row.cell_at h _ g2,Row.cell_at h _ g3,Row.cell_at h _ g4⟩
    have sg:=Fg _ rg
    unfold BoolOk at MV
    unfold ShOk at M1 M2
    have hiI:(i:Int)<(n:Int):=by omega
    clear hx
    clear i0 i1 i2 hug
    have hfy:=Lib.hid trivial
    go_wp2_with fail
    have sB:=hB.size
    refine world_cut (fun X=>Below w.heap.size w X∧Row X w.heap.size (.cells #[.string a,.string b,.slice (some ⟨g,0,none⟩) n c] 26)∧Row X g (.cells cur 32)∧Row X wr.heap.size (.cells #[.int .i64 x.t,.string x.a,.string x.b,.string x.c,.string x.d] 32)) ⟨BW,RWh,RWh,RWh⟩ ?_
    clear rh
    clear sh
    clear rg
    clear sg
    clear hB sB
    rintro V3 ⟨hB,rh,rg,rp⟩
    have sh:=RF3 rh
    have sg:=Fg _ rg
    have sp:=RF5 rp
    refine (MV _ (he.below hB)).mono ?_
    rintro e W4 ⟨rfl,h1⟩
    have st:=St3 hB h1 rh rg rp;clear hB h1 rh sh rg sg rp sp
    obtain ⟨hB,rh,rg,rp⟩:=st
    have sh:=RF3 rh
    have sg:=Fg _ rg
    have sp:=RF5 rp
    go_wp2_with fail
    refine (M1 _ (he.below hB)).mono ?_
    rintro e W5 ⟨rfl,h1⟩
    have st:=St3 hB h1 rh rg rp;clear hB h1 rh sh rg sg rp sp
    obtain ⟨hB,rh,rg,rp⟩:=st
    have sh:=RF3 rh
    have sg:=Fg _ rg
    have sp:=RF5 rp
    go_wp2_with fail
    refine (M2 _ (he.below hB)).mono ?_
    rintro e W6 ⟨rfl,h1⟩
    have st:=St3 hB h1 rh rg rp;clear hB h1 rh sh rg sg rp sp
    obtain ⟨hB,rh,rg,rp⟩:=st
    have sh:=RF3 rh
    have sg:=Fg _ rg
    have sp:=RF5 rp
    go_wp2_with fail
    refine wp_region_vals [.bool false,.bool true,.bool true,undef,undef,.bool true,.bool true,undef,undef,.bool true,.bool true,undef,undef,undef,.bool true,.bool true,undef,undef,undef,.bool true,.bool true,undef,undef,undef,undef,undef,undef,undef,undef,undef,undef,undef,undef,undef,undef,.bool true] (by kernel_rfl) (by kernel_rfl) rfl (allVals.cons qv0 (allVals.cons (qvf hfy.out) (allVals.cons qv0 (allVals.cons qv0 (allVals.cons qv0 (allVals.cons (qvf hfy.out) (allVals.cons qv0 (allVals.cons qv0 (allVals.cons qv0 (allVals.cons (qvf hfy.out) (allVals.cons qv0 (allVals.cons qv0 (allVals.cons qv0 (allVals.cons qv0 (allVals.cons (qvf hfy.out) (allVals.cons qv0 (allVals.cons qv0 (allVals.cons qv0 (allVals.cons qv0 (allVals.cons (qvf hfy.out) (allVals.cons qv0 (allVals.cons qv0 (allVals.cons qv0 (allVals.cons qv0 (allVals.cons (qvf hud) (allVals.cons (qvf hud) (allVals.cons (qvf hud) (allVals.cons (qvf hud) (allVals.cons (qvf hud) (allVals.cons (qvf hud) (allVals.cons (qvf hud) (allVals.cons (qvf hud) (allVals.cons (qvf hud) (allVals.cons (qvf hud) (allVals.cons qv0 (allVals.cons (qvf hfy.out) trivial)))))))))))))))))))))))))))))))))))) ?_
    rintro W h1
    have st:=St3 hB h1 rh rg rp;clear hB h1 rh sh rg sg rp sp
    obtain ⟨hB,rh,rg,rp⟩:=st
    have sh:=RF3 rh
    have sg:=Fg _ rg
    have sp:=RF5 rp
    simp only [setVals,List.setIfInBounds_toArray,List.set_cons_succ,List.set_cons_zero]
    go_wp2
    go_ret
    exact ⟨rfl,hB⟩
   ·cases u1
    ·obtain ⟨g,cur,rfl,rg,g0,g1,g2,g3,g4⟩:=RAt.at (RAt.below HP.out hB) hil
     rw [← hx] at g0 g1 g2 g3 g4
     have sh:=RF3 rh
     have Fg:∀ X,Row X g (.cells cur 32)→(g<X.heap.size∧X.cell? ⟨g,i * 5,none⟩=some (.int .i64 x.t)∧X.cell? ⟨g,i * 5+1,none⟩=some (.string x.a)∧X.cell? ⟨g,i * 5+2,none⟩=some (.string x.b)∧X.cell? ⟨g,i * 5+3,none⟩=some (.string x.c)∧X.cell? ⟨g,i * 5+4,none⟩=some (.string x.d)):=fun X h=>⟨h.1,Row.cell_at h _ g0,Row.cell_at h _ g1,Row.cell_at h _ g2,Row.cell_at h _ g3,Row.cell_at h _ g4⟩
     have sg:=Fg _ rg
     unfold BoolOk at MV
     unfold ShOk at M1 M2
     have hiI:(i:Int)<(n:Int):=by omega
     clear hx
     clear i0 i1 i2 hug
     have hfy:=Lib.hid trivial
     go_wp2_with fail
     have sB:=hB.size
     refine world_cut (fun X=>Below w.heap.size w X∧Row X w.heap.size (.cells #[.string a,.string b,.slice (some ⟨g,0,none⟩) n c] 26)∧Row X g (.cells cur 32)∧Row X wr.heap.size (.cells #[.int .i64 x.t,.string x.a,.string x.b,.string x.c,.string x.d] 32)) ⟨BW,RWh,RWh,RWh⟩ ?_
     clear rh
     clear sh
     clear rg
     clear sg
     clear hB sB
     rintro V3 ⟨hB,rh,rg,rp⟩
     have sh:=RF3 rh
     have sg:=Fg _ rg
     have sp:=RF5 rp
     refine (MV _ (he.below hB)).mono ?_
     rintro e W4 ⟨rfl,h1⟩
     have st:=St3 hB h1 rh rg rp;clear hB h1 rh sh rg sg rp sp
     obtain ⟨hB,rh,rg,rp⟩:=st
     have sh:=RF3 rh
     have sg:=Fg _ rg
     have sp:=RF5 rp
     go_wp2_with fail
     refine (M1 _ (he.below hB)).mono ?_
     rintro e W5 ⟨rfl,h1⟩
     have st:=St3 hB h1 rh rg rp;clear hB h1 rh sh rg sg rp sp
     obtain ⟨hB,rh,rg,rp⟩:=st
     have sh:=RF3 rh
     have sg:=Fg _ rg
     have sp:=RF5 rp
     go_wp2_with fail
     refine (M2 _ (he.below hB)).mono ?_
     rintro e W6 ⟨rfl,h1⟩
     have st:=St3 hB h1 rh rg rp;clear hB h1 rh sh rg sg rp sp
     obtain ⟨hB,rh,rg,rp⟩:=st
     have sh:=RF3 rh
     have sg:=Fg _ rg
     have sp:=RF5 rp
     go_wp2_with fail
     refine wp_region_vals [.bool true,.bool false,.bool false,.bool false,.bool true,.bool true,.bool true,undef,undef,.bool true,.bool true,undef,undef,undef,.bool true,.bool true,undef,undef,undef,.bool true,.bool true,undef,undef,undef,undef,undef,undef,undef,undef,undef,undef,undef,undef,undef,undef,.bool true] (by kernel_rfl) (by kernel_rfl) rfl (allVals.cons qv0 (allVals.cons (qvf hfy.out) (allVals.cons qv0 (allVals.cons qv0 (allVals.cons (qvf hfy.out) (allVals.cons (qvf hfy.out) (allVals.cons qv0 (allVals.cons qv0 (allVals.cons qv0 (allVals.cons (qvf hfy.out) (allVals.cons qv0 (allVals.cons qv0 (allVals.cons qv0 (allVals.cons qv0 (allVals.cons (qvf hfy.out) (allVals.cons qv0 (allVals.cons qv0 (allVals.cons qv0 (allVals.cons qv0 (allVals.cons (qvf hfy.out) (allVals.cons qv0 (allVals.cons qv0 (allVals.cons qv0 (allVals.cons qv0 (allVals.cons (qvf hud) (allVals.cons (qvf hud) (allVals.cons (qvf hud) (allVals.cons (qvf hud) (allVals.cons (qvf hud) (allVals.cons (qvf hud) (allVals.cons (qvf hud) (allVals.cons (qvf hud) (allVals.cons (qvf hud) (allVals.cons (qvf hud) (allVals.cons qv0 (allVals.cons (qvf hfy.out) trivial)))))))))))))))))))))))))))))))))))) ?_
     rintro W h1
     have st:=St3 hB h1 rh rg rp;clear hB h1 rh sh rg sg rp sp
     obtain ⟨hB,rh,rg,rp⟩:=st
     have sh:=RF3 rh
     have sg:=Fg _ rg
     have sp:=RF5 rp
     simp only [setVals,List.setIfInBounds_toArray,List.set_cons_succ,List.set_cons_zero]
     go_wp2
     go_ret
     exact ⟨rfl,hB⟩
    ·cases u2
     ·obtain ⟨g,cur,rfl,rg,g0,g1,g2,g3,g4⟩:=RAt.at (RAt.below HP.out hB) hil
      rw [← hx] at g0 g1 g2 g3 g4
      have sh:=RF3 rh
      have Fg:∀ X,Row X g (.cells cur 32)→(g<X.heap.size∧X.cell? ⟨g,i * 5,none⟩=some (.int .i64 x.t)∧X.cell? ⟨g,i * 5+1,none⟩=some (.string x.a)∧X.cell? ⟨g,i * 5+2,none⟩=some (.string x.b)∧X.cell? ⟨g,i * 5+3,none⟩=some (.string x.c)∧X.cell? ⟨g,i * 5+4,none⟩=some (.string x.d)):=fun X h=>⟨h.1,Row.cell_at h _ g0,Row.cell_at h _ g1,Row.cell_at h _ g2,Row.cell_at h _ g3,Row.cell_at h _ g4⟩
      have sg:=Fg _ rg
      unfold BoolOk at MV
      unfold ShOk at M1 M2
      have hiI:(i:Int)<(n:Int):=by omega
      clear hx
      clear i0 i1 i2 hug
      have hfy:=Lib.hid trivial
      go_wp2_with fail
      have sB:=hB.size
      refine world_cut (fun X=>Below w.heap.size w X∧Row X w.heap.size (.cells #[.string a,.string b,.slice (some ⟨g,0,none⟩) n c] 26)∧Row X g (.cells cur 32)∧Row X wr.heap.size (.cells #[.int .i64 x.t,.string x.a,.string x.b,.string x.c,.string x.d] 32)) ⟨BW,RWh,RWh,RWh⟩ ?_
      clear rh
      clear sh
      clear rg
      clear sg
      clear hB sB
      rintro V3 ⟨hB,rh,rg,rp⟩
      have sh:=RF3 rh
      have sg:=Fg _ rg
      have sp:=RF5 rp
      refine (MV _ (he.below hB)).mono ?_
      rintro e W4 ⟨rfl,h1⟩
      have st:=St3 hB h1 rh rg rp;clear hB h1 rh sh rg sg rp sp
      obtain ⟨hB,rh,rg,rp⟩:=st
      have sh:=RF3 rh
      have sg:=Fg _ rg
      have sp:=RF5 rp
      go_wp2_with fail
      refine (M1 _ (he.below hB)).mono ?_
      rintro e W5 ⟨rfl,h1⟩
      have st:=St3 hB h1 rh rg rp;clear hB h1 rh sh rg sg rp sp
      obtain ⟨hB,rh,rg,rp⟩:=st
      have sh:=RF3 rh
      have sg:=Fg _ rg
      have sp:=RF5 rp
      go_wp2_with fail
      refine (M2 _ (he.below hB)).mono ?_
      rintro e W6 ⟨rfl,h1⟩
      have st:=St3 hB h1 rh rg rp;clear hB h1 rh sh rg sg rp sp
      obtain ⟨hB,rh,rg,rp⟩:=st
      have sh:=RF3 rh
      have sg:=Fg _ rg
      have sp:=RF5 rp
      go_wp2_with fail
      refine wp_region_vals [.bool true,.bool false,.bool false,.bool true,.bool false,.bool false,.bool false,.bool false,.bool true,.bool true,.bool true,undef,undef,undef,.bool true,.bool true,undef,undef,undef,.bool true,.bool true,undef,undef,undef,undef,undef,undef,undef,undef,undef,undef,undef,undef,undef,undef,.bool true] (by kernel_rfl) (by kernel_rfl) rfl (allVals.cons qv0 (allVals.cons (qvf hfy.out) (allVals.cons qv0 (allVals.cons qv0 (allVals.cons (qvf hfy.out) (allVals.cons (qvf hfy.out) (allVals.cons qv0 (allVals.cons qv0 (allVals.cons (qvf hfy.out) (allVals.cons (qvf hfy.out) (allVals.cons qv0 (allVals.cons qv0 (allVals.cons qv0 (allVals.cons qv0 (allVals.cons (qvf hfy.out) (allVals.cons qv0 (allVals.cons qv0 (allVals.cons qv0 (allVals.cons qv0 (allVals.cons (qvf hfy.out) (allVals.cons qv0 (allVals.cons qv0 (allVals.cons qv0 (allVals.cons qv0 (allVals.cons (qvf hud) (allVals.cons (qvf hud) (allVals.cons (qvf hud) (allVals.cons (qvf hud) (allVals.cons (qvf hud) (allVals.cons (qvf hud) (allVals.cons (qvf hud) (allVals.cons (qvf hud) (allVals.cons (qvf hud) (allVals.cons (qvf hud) (allVals.cons qv0 (allVals.cons (qvf hfy.out) trivial)))))))))))))))))))))))))))))))))))) ?_
      rintro W h1
      have st:=St3 hB h1 rh rg rp;clear hB h1 rh sh rg sg rp sp
      obtain ⟨hB,rh,rg,rp⟩:=st
      have sh:=RF3 rh
      have sg:=Fg _ rg
      have sp:=RF5 rp
      simp only [setVals,List.setIfInBounds_toArray,List.set_cons_succ,List.set_cons_zero]
      go_wp2
      go_ret
      exact ⟨rfl,hB⟩
     ·by_cases c1:x.t<0
      ·obtain ⟨g,cur,rfl,rg,g0,g1,g2,g3,g4⟩:=RAt.at (RAt.below HP.out hB) hil
       rw [← hx] at g0 g1 g2 g3 g4
       have sh:=RF3 rh
       have Fg:∀ X,Row X g (.cells cur 32)→(g<X.heap.size∧X.cell? ⟨g,i * 5,none⟩=some (.int .i64 x.t)∧X.cell? ⟨g,i * 5+1,none⟩=some (.string x.a)∧X.cell? ⟨g,i * 5+2,none⟩=some (.string x.b)∧X.cell? ⟨g,i * 5+3,none⟩=some (.string x.c)∧X.cell? ⟨g,i * 5+4,none⟩=some (.string x.d)):=fun X h=>⟨h.1,Row.cell_at h _ g0,Row.cell_at h _ g1,Row.cell_at h _ g2,Row.cell_at h _ g3,Row.cell_at h _ g4⟩
       have sg:=Fg _ rg
       unfold BoolOk at MV
       unfold ShOk at M1 M2
       have hiI:(i:Int)<(n:Int):=by omega
       clear hx
       clear i0 i1 i2 hug
       have hfy:=Lib.hid (And.intro c1 trivial)
       go_wp2_with fail
       have sB:=hB.size
       refine world_cut (fun X=>Below w.heap.size w X∧Row X w.heap.size (.cells #[.string a,.string b,.slice (some ⟨g,0,none⟩) n c] 26)∧Row X g (.cells cur 32)∧Row X wr.heap.size (.cells #[.int .i64 x.t,.string x.a,.string x.b,.string x.c,.string x.d] 32)) ⟨BW,RWh,RWh,RWh⟩ ?_
       clear rh
       clear sh
       clear rg
       clear sg
       clear hB sB
       rintro V3 ⟨hB,rh,rg,rp⟩
       have sh:=RF3 rh
       have sg:=Fg _ rg
       have sp:=RF5 rp
       refine (MV _ (he.below hB)).mono ?_
       rintro e W4 ⟨rfl,h1⟩
       have st:=St3 hB h1 rh rg rp;clear hB h1 rh sh rg sg rp sp
       obtain ⟨hB,rh,rg,rp⟩:=st
       have sh:=RF3 rh
       have sg:=Fg _ rg
       have sp:=RF5 rp
       go_wp2_with fail
       refine (M1 _ (he.below hB)).mono ?_
       rintro e W5 ⟨rfl,h1⟩
       have st:=St3 hB h1 rh rg rp;clear hB h1 rh sh rg sg rp sp
       obtain ⟨hB,rh,rg,rp⟩:=st
       have sh:=RF3 rh
       have sg:=Fg _ rg
       have sp:=RF5 rp
       go_wp2_with fail
       refine (M2 _ (he.below hB)).mono ?_
       rintro e W6 ⟨rfl,h1⟩
       have st:=St3 hB h1 rh rg rp;clear hB h1 rh sh rg sg rp sp
       obtain ⟨hB,rh,rg,rp⟩:=st
       have sh:=RF3 rh
       have sg:=Fg _ rg
       have sp:=RF5 rp
       go_wp2_with fail
       refine wp_region_vals [.bool true,.bool false,.bool false,.bool true,.bool false,.bool false,.bool false,.bool true,.bool false,.bool false,.bool false,.pointer (some ⟨wr.heap.size,0,none⟩),.int .i64 x.t,.bool true,.bool true,.bool true,undef,undef,undef,.bool true,.bool true,undef,undef,undef,undef,undef,undef,undef,undef,undef,undef,undef,undef,undef,undef,.bool true] (by kernel_rfl) (by kernel_rfl) rfl (allVals.cons qv0 (allVals.cons (qvf hfy.out) (allVals.cons qv0 (allVals.cons qv0 (allVals.cons (qvf hfy.out) (allVals.cons (qvf hfy.out) (allVals.cons qv0 (allVals.cons qv0 (allVals.cons (qvf hfy.out) (allVals.cons (qvf hfy.out) (allVals.cons qv0 (allVals.cons qv0 (allVals.cons (qv1 fun X h=>RF5 (Row.below rp h)) (allVals.cons (qvf hfy.out) (allVals.cons (qvf hfy.out) (allVals.cons qv0 (allVals.cons qv0 (allVals.cons qv0 (allVals.cons qv0 (allVals.cons (qvf hfy.out) (allVals.cons qv0 (allVals.cons qv0 (allVals.cons qv0 (allVals.cons qv0 (allVals.cons (qvf hud) (allVals.cons (qvf hud) (allVals.cons (qvf hud) (allVals.cons (qvf hud) (allVals.cons (qvf hud) (allVals.cons (qvf hud) (allVals.cons (qvf hud) (allVals.cons (qvf hud) (allVals.cons (qvf hud) (allVals.cons (qvf hud) (allVals.cons qv0 (allVals.cons (qvf hfy.out) trivial)))))))))))))))))))))))))))))))))))) ?_
       rintro W h1
       have st:=St3 hB h1 rh rg rp;clear hB h1 rh sh rg sg rp sp
       obtain ⟨hB,rh,rg,rp⟩:=st
       have sh:=RF3 rh
       have sg:=Fg _ rg
       have sp:=RF5 rp
       simp only [setVals,List.setIfInBounds_toArray,List.set_cons_succ,List.set_cons_zero]
       go_wp2
       go_ret
       exact ⟨rfl,hB⟩
      ·have d1:0≤x.t:=by omega
       by_cases c2:1000000<x.t
       ·obtain ⟨g,cur,rfl,rg,g0,g1,g2,g3,g4⟩:=RAt.at (RAt.below HP.out hB) hil
        rw [← hx] at g0 g1 g2 g3 g4
        have sh:=RF3 rh
        have Fg:∀ X,Row X g (.cells cur 32)→(g<X.heap.size∧X.cell? ⟨g,i * 5,none⟩=some (.int .i64 x.t)∧X.cell? ⟨g,i * 5+1,none⟩=some (.string x.a)∧X.cell? ⟨g,i * 5+2,none⟩=some (.string x.b)∧X.cell? ⟨g,i * 5+3,none⟩=some (.string x.c)∧X.cell? ⟨g,i * 5+4,none⟩=some (.string x.d)):=fun X h=>⟨h.1,Row.cell_at h _ g0,Row.cell_at h _ g1,Row.cell_at h _ g2,Row.cell_at h _ g3,Row.cell_at h _ g4⟩
        have sg:=Fg _ rg
        unfold BoolOk at MV
        unfold ShOk at M1 M2
        have hiI:(i:Int)<(n:Int):=by omega
        clear hx
        clear i0 i1 i2 hug
        have hfy:=Lib.hid (And.intro d1 (And.intro c2 trivial))
        go_wp2_with fail
        have sB:=hB.size
        refine world_cut (fun X=>Below w.heap.size w X∧Row X w.heap.size (.cells #[.string a,.string b,.slice (some ⟨g,0,none⟩) n c] 26)∧Row X g (.cells cur 32)∧Row X wr.heap.size (.cells #[.int .i64 x.t,.string x.a,.string x.b,.string x.c,.string x.d] 32)) ⟨BW,RWh,RWh,RWh⟩ ?_
        clear rh
        clear sh
        clear rg
        clear sg
        clear hB sB
        rintro V3 ⟨hB,rh,rg,rp⟩
        have sh:=RF3 rh
        have sg:=Fg _ rg
        have sp:=RF5 rp
        refine (MV _ (he.below hB)).mono ?_
        rintro e W4 ⟨rfl,h1⟩
        have st:=St3 hB h1 rh rg rp;clear hB h1 rh sh rg sg rp sp
        obtain ⟨hB,rh,rg,rp⟩:=st
        have sh:=RF3 rh
        have sg:=Fg _ rg
        have sp:=RF5 rp
        go_wp2_with fail
        refine (M1 _ (he.below hB)).mono ?_
        rintro e W5 ⟨rfl,h1⟩
        have st:=St3 hB h1 rh rg rp;clear hB h1 rh sh rg sg rp sp
        obtain ⟨hB,rh,rg,rp⟩:=st
        have sh:=RF3 rh
        have sg:=Fg _ rg
        have sp:=RF5 rp
        go_wp2_with fail
        refine (M2 _ (he.below hB)).mono ?_
        rintro e W6 ⟨rfl,h1⟩
        have st:=St3 hB h1 rh rg rp;clear hB h1 rh sh rg sg rp sp
        obtain ⟨hB,rh,rg,rp⟩:=st
        have sh:=RF3 rh
        have sg:=Fg _ rg
        have sp:=RF5 rp
        go_wp2_with fail
        refine wp_region_vals [.bool true,.bool false,.bool false,.bool true,.bool false,.bool false,.bool false,.bool true,.bool false,.bool false,.bool false,.pointer (some ⟨wr.heap.size,0,none⟩),.int .i64 x.t,.bool false,.bool false,.bool false,.pointer (some ⟨wr.heap.size,0,none⟩),.int .i64 x.t,.bool true,.bool true,.bool true,undef,undef,undef,undef,undef,undef,undef,undef,undef,undef,undef,undef,undef,undef,.bool true] (by kernel_rfl) (by kernel_rfl) rfl (allVals.cons qv0 (allVals.cons (qvf hfy.out) (allVals.cons qv0 (allVals.cons qv0 (allVals.cons (qvf hfy.out) (allVals.cons (qvf hfy.out) (allVals.cons qv0 (allVals.cons qv0 (allVals.cons (qvf hfy.out) (allVals.cons (qvf hfy.out) (allVals.cons qv0 (allVals.cons qv0 (allVals.cons (qv1 fun X h=>RF5 (Row.below rp h)) (allVals.cons (qvf hfy.out) (allVals.cons (qvf hfy.out) (allVals.cons qv0 (allVals.cons qv0 (allVals.cons (qv1 fun X h=>RF5 (Row.below rp h)) (allVals.cons (qvf hfy.out) (allVals.cons (qvf hfy.out) (allVals.cons qv0 (allVals.cons qv0 (allVals.cons qv0 (allVals.cons qv0 (allVals.cons (qvf hud) (allVals.cons (qvf hud) (allVals.cons (qvf hud) (allVals.cons (qvf hud) (allVals.cons (qvf hud) (allVals.cons (qvf hud) (allVals.cons (qvf hud) (allVals.cons (qvf hud) (allVals.cons (qvf hud) (allVals.cons (qvf hud) (allVals.cons qv0 (allVals.cons (qvf hfy.out) trivial)))))))))))))))))))))))))))))))))))) ?_
        rintro W h1
        have st:=St3 hB h1 rh rg rp;clear hB h1 rh sh rg sg rp sp
        obtain ⟨hB,rh,rg,rp⟩:=st
        have sh:=RF3 rh
        have sg:=Fg _ rg
        have sp:=RF5 rp
        simp only [setVals,List.setIfInBounds_toArray,List.set_cons_succ,List.set_cons_zero]
        go_wp2
        go_ret
        exact ⟨rfl,hB⟩
       ·have d2:x.t≤1000000:=by omega
        have hpg:ptG x:=ptG_of (by omega) (by omega) (i0.1 rfl) (i1.1 rfl) (i2.1 rfl)
        obtain ⟨tn,htn⟩:∃ tn:Nat,x.t=(tn:Int):=⟨x.t.toNat,by omega⟩
        rcases Nat.eq_zero_or_pos i with hi0 | hi0
        ·have HUG:UpG l (i+1) tn:=hug.succ (by rw [← hx];exact htn) (by have:=hz hi0;omega) (by rw [← hx];exact hpg)
         have HTN:Hid ((rpD l i).t=(tn:Int)):=Lib.hid (by rw [← hx];exact htn)
         have HI0:=Lib.hid hi0
         clear hi0 htn hpg i0 i1 i2 hug hz hz2
         obtain ⟨g,cur,rfl,rg,g0,g1,g2,g3,g4⟩:=RAt.at (RAt.below HP.out hB) hil
         rw [← hx] at g0 g1 g2 g3 g4
         have sh:=RF3 rh
         have Fg:∀ X,Row X g (.cells cur 32)→(g<X.heap.size∧X.cell? ⟨g,i * 5,none⟩=some (.int .i64 x.t)∧X.cell? ⟨g,i * 5+1,none⟩=some (.string x.a)∧X.cell? ⟨g,i * 5+2,none⟩=some (.string x.b)∧X.cell? ⟨g,i * 5+3,none⟩=some (.string x.c)∧X.cell? ⟨g,i * 5+4,none⟩=some (.string x.d)):=fun X h=>⟨h.1,Row.cell_at h _ g0,Row.cell_at h _ g1,Row.cell_at h _ g2,Row.cell_at h _ g3,Row.cell_at h _ g4⟩
         have sg:=Fg _ rg
         unfold BoolOk at MV
         unfold ShOk at M1 M2
         have hiI:(i:Int)<(n:Int):=by omega
         clear hx
         have hfy:=Lib.hid (And.intro d1 (And.intro d2 (And.intro HI0.out trivial)))
         go_wp2_with fail
         have sB:=hB.size
         refine world_cut (fun X=>Below w.heap.size w X∧Row X w.heap.size (.cells #[.string a,.string b,.slice (some ⟨g,0,none⟩) n c] 26)∧Row X g (.cells cur 32)∧Row X wr.heap.size (.cells #[.int .i64 x.t,.string x.a,.string x.b,.string x.c,.string x.d] 32)) ⟨BW,RWh,RWh,RWh⟩ ?_
         clear rh
         clear sh
         clear rg
         clear sg
         clear hB sB
         rintro V3 ⟨hB,rh,rg,rp⟩
         have sh:=RF3 rh
         have sg:=Fg _ rg
         have sp:=RF5 rp
         refine (MV _ (he.below hB)).mono ?_
         rintro e W4 ⟨rfl,h1⟩
         have st:=St3 hB h1 rh rg rp;clear hB h1 rh sh rg sg rp sp
         obtain ⟨hB,rh,rg,rp⟩:=st
         have sh:=RF3 rh
         have sg:=Fg _ rg
         have sp:=RF5 rp
         go_wp2_with fail
         refine (M1 _ (he.below hB)).mono ?_
         rintro e W5 ⟨rfl,h1⟩
         have st:=St3 hB h1 rh rg rp;clear hB h1 rh sh rg sg rp sp
         obtain ⟨hB,rh,rg,rp⟩:=st
         have sh:=RF3 rh
         have sg:=Fg _ rg
         have sp:=RF5 rp
         go_wp2_with fail
         refine (M2 _ (he.below hB)).mono ?_
         rintro e W6 ⟨rfl,h1⟩
         have st:=St3 hB h1 rh rg rp;clear hB h1 rh sh rg sg rp sp
         obtain ⟨hB,rh,rg,rp⟩:=st
         have sh:=RF3 rh
         have sg:=Fg _ rg
         have sp:=RF5 rp
         go_wp2_with fail
         refine wp_region_vals [.bool true,.bool false,.bool false,.bool true,.bool false,.bool false,.bool false,.bool true,.bool false,.bool false,.bool false,.pointer (some ⟨wr.heap.size,0,none⟩),.int .i64 x.t,.bool false,.bool false,.bool false,.pointer (some ⟨wr.heap.size,0,none⟩),.int .i64 x.t,.bool false,.bool false,.bool false,.int .i64 (i:Int),.bool false,.bool false,undef,undef,undef,undef,undef,undef,undef,undef,undef,undef,.bool false,.bool false] (by kernel_rfl) (by kernel_rfl) rfl (allVals.cons qv0 (allVals.cons (qvf hfy.out) (allVals.cons qv0 (allVals.cons qv0 (allVals.cons (qvf hfy.out) (allVals.cons (qvf hfy.out) (allVals.cons qv0 (allVals.cons qv0 (allVals.cons (qvf hfy.out) (allVals.cons (qvf hfy.out) (allVals.cons qv0 (allVals.cons qv0 (allVals.cons (qv1 fun X h=>RF5 (Row.below rp h)) (allVals.cons (qvf hfy.out) (allVals.cons (qvf hfy.out) (allVals.cons qv0 (allVals.cons qv0 (allVals.cons (qv1 fun X h=>RF5 (Row.below rp h)) (allVals.cons (qvf hfy.out) (allVals.cons (qvf hfy.out) (allVals.cons qv0 (allVals.cons qv0 (allVals.cons (qvf hfy.out) (allVals.cons qv0 (allVals.cons qv0 (allVals.cons qv0 (allVals.cons qv0 (allVals.cons qv0 (allVals.cons qv0 (allVals.cons qv0 (allVals.cons qv0 (allVals.cons qv0 (allVals.cons qv0 (allVals.cons qv0 (allVals.cons (qvf hfy.out) (allVals.cons (qvf hfy.out) trivial)))))))))))))))))))))))))))))))))))) ?_
         rintro W h1
         have st:=St3 hB h1 rh rg rp;clear hB h1 rh sh rg sg rp sp
         obtain ⟨hB,rh,rg,rp⟩:=st
         have sh:=RF3 rh
         have sg:=Fg _ rg
         have sp:=RF5 rp
         simp only [setVals,List.setIfInBounds_toArray,List.set_cons_succ,List.set_cons_zero]
         go_wp2
         go_roundw
         case rel=>exact ⟨i+1,tn,by go_num,by omega,HUG,(fun h=>absurd h (by omega)),(fun k hk=>by have e:k=i:=(by omega);rw [e];exact HTN.out),BW,RWh⟩
         case measure=>simp [RowKit.intOf];try omega
        ·obtain ⟨j,hij⟩:∃ j,i=j+1:=⟨i - 1,by omega⟩
         have hjl:j<l.length:=by omega
         have hiP:(0:Int)<(i:Int):=by omega
         have hw1:IntKind.i64.wrap ((i:Int) - 1)=(j:Int):=by rw [IntKind.wrap_i64];omega
         have hjI:(j:Int)<(n:Int):=by omega
         obtain ⟨y,hy⟩:∃ y,y=rpD l j:=⟨_,rfl⟩
         by_cases c3:x.t<y.t
         ·clear hij hpg htn
          obtain ⟨g,cur,rfl,rg,g0,g1,g2,g3,g4,g5⟩:=RAt.two (RAt.below HP.out hB) hil hjl
          rw [← hy] at g5
          rw [← hx] at g0 g1 g2 g3 g4
          have sh:=RF3 rh
          have Fg:∀ X,Row X g (.cells cur 32)→(g<X.heap.size∧X.cell? ⟨g,i * 5,none⟩=some (.int .i64 x.t)∧X.cell? ⟨g,i * 5+1,none⟩=some (.string x.a)∧X.cell? ⟨g,i * 5+2,none⟩=some (.string x.b)∧X.cell? ⟨g,i * 5+3,none⟩=some (.string x.c)∧X.cell? ⟨g,i * 5+4,none⟩=some (.string x.d)∧X.cell? ⟨g,j * 5,none⟩=some (.int .i64 y.t)):=fun X h=>⟨h.1,Row.cell_at h _ g0,Row.cell_at h _ g1,Row.cell_at h _ g2,Row.cell_at h _ g3,Row.cell_at h _ g4,Row.cell_at h _ g5⟩
          have sg:=Fg _ rg
          unfold BoolOk at MV
          unfold ShOk at M1 M2
          have hiI:(i:Int)<(n:Int):=by omega
          clear hx hy
          clear i0 i1 i2 hug
          have hfy:=Lib.hid (And.intro d1 (And.intro d2 (And.intro hi0 (And.intro hiP (And.intro hw1 (And.intro hjI (And.intro c3 trivial)))))))
          go_wp2_with fail
          have sB:=hB.size
          refine world_cut (fun X=>Below w.heap.size w X∧Row X w.heap.size (.cells #[.string a,.string b,.slice (some ⟨g,0,none⟩) n c] 26)∧Row X g (.cells cur 32)∧Row X wr.heap.size (.cells #[.int .i64 x.t,.string x.a,.string x.b,.string x.c,.string x.d] 32)) ⟨BW,RWh,RWh,RWh⟩ ?_
          clear rh
          clear sh
          clear rg
          clear sg
          clear hB sB
          rintro V3 ⟨hB,rh,rg,rp⟩
          have sh:=RF3 rh
          have sg:=Fg _ rg
          have sp:=RF5 rp
          refine (MV _ (he.below hB)).mono ?_
          rintro e W4 ⟨rfl,h1⟩
          have st:=St3 hB h1 rh rg rp;clear hB h1 rh sh rg sg rp sp
          obtain ⟨hB,rh,rg,rp⟩:=st
          have sh:=RF3 rh
          have sg:=Fg _ rg
          have sp:=RF5 rp
          go_wp2_with fail
          refine (M1 _ (he.below hB)).mono ?_
          rintro e W5 ⟨rfl,h1⟩
          have st:=St3 hB h1 rh rg rp;clear hB h1 rh sh rg sg rp sp
          obtain ⟨hB,rh,rg,rp⟩:=st
          have sh:=RF3 rh
          have sg:=Fg _ rg
          have sp:=RF5 rp
          go_wp2_with fail
          refine (M2 _ (he.below hB)).mono ?_
          rintro e W6 ⟨rfl,h1⟩
          have st:=St3 hB h1 rh rg rp;clear hB h1 rh sh rg sg rp sp
          obtain ⟨hB,rh,rg,rp⟩:=st
          have sh:=RF3 rh
          have sg:=Fg _ rg
          have sp:=RF5 rp
          go_wp2_with fail
          refine wp_region_vals [.bool true,.bool false,.bool false,.bool true,.bool false,.bool false,.bool false,.bool true,.bool false,.bool false,.bool false,.pointer (some ⟨wr.heap.size,0,none⟩),.int .i64 x.t,.bool false,.bool false,.bool false,.pointer (some ⟨wr.heap.size,0,none⟩),.int .i64 x.t,.bool false,.bool false,.bool false,.int .i64 (i:Int),.bool true,.bool true,.pointer (some ⟨w.heap.size,2,none⟩),.slice (some ⟨g,0,none⟩) n c,.int .i64 (i:Int),.int .i64 (j:Int),.pointer (some ⟨g,j * 5,none⟩),.pointer (some ⟨g,j * 5,none⟩),.int .i64 y.t,.pointer (some ⟨wr.heap.size,0,none⟩),.int .i64 x.t,.bool true,.bool true,.bool true] (by kernel_rfl) (by kernel_rfl) rfl (allVals.cons qv0 (allVals.cons (qvf hfy.out) (allVals.cons qv0 (allVals.cons qv0 (allVals.cons (qvf hfy.out) (allVals.cons (qvf hfy.out) (allVals.cons qv0 (allVals.cons qv0 (allVals.cons (qvf hfy.out) (allVals.cons (qvf hfy.out) (allVals.cons qv0 (allVals.cons qv0 (allVals.cons (qv1 fun X h=>RF5 (Row.below rp h)) (allVals.cons (qvf hfy.out) (allVals.cons (qvf hfy.out) (allVals.cons qv0 (allVals.cons qv0 (allVals.cons (qv1 fun X h=>RF5 (Row.below rp h)) (allVals.cons (qvf hfy.out) (allVals.cons (qvf hfy.out) (allVals.cons qv0 (allVals.cons qv0 (allVals.cons (qvf hfy.out) (allVals.cons qv0 (allVals.cons qv0 (allVals.cons (qv1 fun X h=>RF3 (Row.below rh h)) (allVals.cons qv0 (allVals.cons (qvf hfy.out) (allVals.cons (qvf hfy.out) (allVals.cons qv0 (allVals.cons (qv1 fun X h=>Fg X (Row.below rg h)) (allVals.cons qv0 (allVals.cons (qv1 fun X h=>RF5 (Row.below rp h)) (allVals.cons (qvf hfy.out) (allVals.cons (qvf hfy.out) (allVals.cons (qvf hfy.out) trivial)))))))))))))))))))))))))))))))))))) ?_
          rintro W h1
          have st:=St3 hB h1 rh rg rp;clear hB h1 rh sh rg sg rp sp
          obtain ⟨hB,rh,rg,rp⟩:=st
          have sh:=RF3 rh
          have sg:=Fg _ rg
          have sp:=RF5 rp
          simp only [setVals,List.setIfInBounds_toArray,List.set_cons_succ,List.set_cons_zero]
          go_wp2
          go_ret
          exact ⟨rfl,hB⟩
         ·have d3:y.t≤x.t:=by omega
          have HUG:UpG l (i+1) tn:=hug.succ (by rw [← hx];exact htn) (by have h9:=hz2 j hij;rw [← hy] at h9;omega) (by rw [← hx];exact hpg)
          have HTN:Hid ((rpD l i).t=(tn:Int)):=Lib.hid (by rw [← hx];exact htn)
          clear hij htn hpg i0 i1 i2 hug hz hz2
          obtain ⟨g,cur,rfl,rg,g0,g1,g2,g3,g4,g5⟩:=RAt.two (RAt.below HP.out hB) hil hjl
          rw [← hy] at g5
          rw [← hx] at g0 g1 g2 g3 g4
          have sh:=RF3 rh
          have Fg:∀ X,Row X g (.cells cur 32)→(g<X.heap.size∧X.cell? ⟨g,i * 5,none⟩=some (.int .i64 x.t)∧X.cell? ⟨g,i * 5+1,none⟩=some (.string x.a)∧X.cell? ⟨g,i * 5+2,none⟩=some (.string x.b)∧X.cell? ⟨g,i * 5+3,none⟩=some (.string x.c)∧X.cell? ⟨g,i * 5+4,none⟩=some (.string x.d)∧X.cell? ⟨g,j * 5,none⟩=some (.int .i64 y.t)):=fun X h=>⟨h.1,Row.cell_at h _ g0,Row.cell_at h _ g1,Row.cell_at h _ g2,Row.cell_at h _ g3,Row.cell_at h _ g4,Row.cell_at h _ g5⟩
          have sg:=Fg _ rg
          unfold BoolOk at MV
          unfold ShOk at M1 M2
          have hiI:(i:Int)<(n:Int):=by omega
          clear hx hy
          have hfy:=Lib.hid (And.intro d1 (And.intro d2 (And.intro hi0 (And.intro hiP (And.intro hw1 (And.intro hjI (And.intro d3 trivial)))))))
          go_wp2_with fail
          have sB:=hB.size
          refine world_cut (fun X=>Below w.heap.size w X∧Row X w.heap.size (.cells #[.string a,.string b,.slice (some ⟨g,0,none⟩) n c] 26)∧Row X g (.cells cur 32)∧Row X wr.heap.size (.cells #[.int .i64 x.t,.string x.a,.string x.b,.string x.c,.string x.d] 32)) ⟨BW,RWh,RWh,RWh⟩ ?_
          clear rh
          clear sh
          clear rg
          clear sg
          clear hB sB
          rintro V3 ⟨hB,rh,rg,rp⟩
          have sh:=RF3 rh
          have sg:=Fg _ rg
          have sp:=RF5 rp
          refine (MV _ (he.below hB)).mono ?_
          rintro e W4 ⟨rfl,h1⟩
          have st:=St3 hB h1 rh rg rp;clear hB h1 rh sh rg sg rp sp
          obtain ⟨hB,rh,rg,rp⟩:=st
          have sh:=RF3 rh
          have sg:=Fg _ rg
          have sp:=RF5 rp
          go_wp2_with fail
          refine (M1 _ (he.below hB)).mono ?_
          rintro e W5 ⟨rfl,h1⟩
          have st:=St3 hB h1 rh rg rp;clear hB h1 rh sh rg sg rp sp
          obtain ⟨hB,rh,rg,rp⟩:=st
          have sh:=RF3 rh
          have sg:=Fg _ rg
          have sp:=RF5 rp
          go_wp2_with fail
          refine (M2 _ (he.below hB)).mono ?_
          rintro e W6 ⟨rfl,h1⟩
          have st:=St3 hB h1 rh rg rp;clear hB h1 rh sh rg sg rp sp
          obtain ⟨hB,rh,rg,rp⟩:=st
          have sh:=RF3 rh
          have sg:=Fg _ rg
          have sp:=RF5 rp
          go_wp2_with fail
          refine wp_region_vals [.bool true,.bool false,.bool false,.bool true,.bool false,.bool false,.bool false,.bool true,.bool false,.bool false,.bool false,.pointer (some ⟨wr.heap.size,0,none⟩),.int .i64 x.t,.bool false,.bool false,.bool false,.pointer (some ⟨wr.heap.size,0,none⟩),.int .i64 x.t,.bool false,.bool false,.bool false,.int .i64 (i:Int),.bool true,.bool true,.pointer (some ⟨w.heap.size,2,none⟩),.slice (some ⟨g,0,none⟩) n c,.int .i64 (i:Int),.int .i64 (j:Int),.pointer (some ⟨g,j * 5,none⟩),.pointer (some ⟨g,j * 5,none⟩),.int .i64 y.t,.pointer (some ⟨wr.heap.size,0,none⟩),.int .i64 x.t,.bool false,.bool false,.bool false] (by kernel_rfl) (by kernel_rfl) rfl (allVals.cons qv0 (allVals.cons (qvf hfy.out) (allVals.cons qv0 (allVals.cons qv0 (allVals.cons (qvf hfy.out) (allVals.cons (qvf hfy.out) (allVals.cons qv0 (allVals.cons qv0 (allVals.cons (qvf hfy.out) (allVals.cons (qvf hfy.out) (allVals.cons qv0 (allVals.cons qv0 (allVals.cons (qv1 fun X h=>RF5 (Row.below rp h)) (allVals.cons (qvf hfy.out) (allVals.cons (qvf hfy.out) (allVals.cons qv0 (allVals.cons qv0 (allVals.cons (qv1 fun X h=>RF5 (Row.below rp h)) (allVals.cons (qvf hfy.out) (allVals.cons (qvf hfy.out) (allVals.cons qv0 (allVals.cons qv0 (allVals.cons (qvf hfy.out) (allVals.cons qv0 (allVals.cons qv0 (allVals.cons (qv1 fun X h=>RF3 (Row.below rh h)) (allVals.cons qv0 (allVals.cons (qvf hfy.out) (allVals.cons (qvf hfy.out) (allVals.cons qv0 (allVals.cons (qv1 fun X h=>Fg X (Row.below rg h)) (allVals.cons qv0 (allVals.cons (qv1 fun X h=>RF5 (Row.below rp h)) (allVals.cons (qvf hfy.out) (allVals.cons (qvf hfy.out) (allVals.cons (qvf hfy.out) trivial)))))))))))))))))))))))))))))))))))) ?_
          rintro W h1
          have st:=St3 hB h1 rh rg rp;clear hB h1 rh sh rg sg rp sp
          obtain ⟨hB,rh,rg,rp⟩:=st
          have sh:=RF3 rh
          have sg:=Fg _ rg
          have sp:=RF5 rp
          simp only [setVals,List.setIfInBounds_toArray,List.set_cons_succ,List.set_cons_zero]
          go_wp2
          go_roundw
          case rel=>exact ⟨i+1,tn,by go_num,by omega,HUG,(fun h=>absurd h (by omega)),(fun k hk=>by have e:k=i:=(by omega);rw [e];exact HTN.out),BW,RWh⟩
          case measure=>simp [RowKit.intOf];try omega
  ·obtain rfl:i=n:=by omega
   exact absurd hug (HK.out t)
/-- No history: both say no. -/
theorem dvno {a b:ByteArray} {l:List RP} (ha:Str a) (hb:Str b) (p:Option Addr) (n c:Nat) (hn:l.length=n) (hfew:n≤64) (hst:∀ x,x ∈ l→RStr x) (hno:¬ ∃ H,HistS a b l H) (w:World) (hp:RAt w p l) (he:Env w) :
  Calls Tryz.prog 22 #[.agg #[.string a,.string b,.slice p n c]] w (BoolOk false w)∧Calls Tryz.prog 23 #[.agg #[.string a,.string b,.slice p n c]] w (BoolOk false w):=by
 obtain ⟨u,v,hu,M1,M2⟩:=sh_any a b ha hb
 cases u
 ·exact ⟨dvno_a p n c M1 w he,rdvno_a p n c M2 w he⟩
 ·obtain ⟨r,hr⟩:=hu.1 rfl
  have C1:∀ W,Env W→Calls Tryz.prog 53 #[.agg #[.string a,.string b],.agg #[.string ⟨#[48]⟩,.string ⟨#[49]⟩]] W (CmpOk (cmpQ r 0) W):=fun W H=>by
   have h:=qcompare r 0 (hr.2.2.mono (by omega)) (qdig0 200 (by omega)) W H
   rw [Q_zero] at h
   unfold Q at h
   rwa [← hr.1,← hr.2.1] at h
  have C2:∀ W,Env W→Calls Tryz.prog 56 #[.agg #[.string a,.string b],.agg #[.string ⟨#[48]⟩,.string ⟨#[49]⟩]] W (CmpOk (cmpQ r 0) W):=fun W H=>by
   have h:=rqcompare r 0 (hr.2.2.mono (by omega)) (qdig0 200 (by omega)) W
   rw [Q_zero] at h
   unfold Q at h
   rwa [← hr.1,← hr.2.1] at h
  by_cases h0:0≤r
  ·have hc:0≤cmpQ r 0:=cmpQ_ge.2 h0
   have hk:∀ t,¬ UpG l n t:=fun t ht=>hno (by subst hn;exact ht.hist hr h0 hfew)
   exact ⟨dvno_c hc p n c hn hfew hst hk M1 C1 w hp he,rdvno_c hc p n c hn hfew hst hk M2 C2 w hp he⟩
  ·have hc:cmpQ r 0<0:=by have:=mt (cmpQ_ge (a:=r) (b:=0)).1 h0;omega
   exact ⟨dvno_b hc p n c M1 C1 w he,rdvno_b hc p n c M2 C2 w he⟩
end Go.Proofs.YtnokpldomlmamaaGreatDoor
