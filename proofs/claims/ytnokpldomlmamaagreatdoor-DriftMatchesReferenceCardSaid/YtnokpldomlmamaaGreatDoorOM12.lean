/-
 drift.Add: a valid history, with a point that is none: refused. Arguments that are slices of arrays of integers, or slices of integers: what lies in memory. The law's short and few: strings cut to 45 bytes, at most ten points. The reference of drift: Same, at two histories of the same strings.
-/
import Derived.Deep.RegionHeld3
import Derived.Deep.Slices
import Derived.Test.YtnokpldomlmamaaGreatDoorOEnv12
import Derived.Test.YtnokpldomlmamaaGreatDoorOM1
import Derived.Test.YtnokpldomlmamaaGreatDoorOM3
import Derived.Test.YtnokpldomlmamaaGreatDoorOR12Made
set_option linter.unusedSimpArgs false
set_option linter.unusedVariables false
set_option maxRecDepth 100000
set_option maxHeartbeats 16000000
namespace Go.Proofs.YtnokpldomlmamaaGreatDoor
open Go Go.RowKit Go.Lib Go.Shelf
def rawOf (p:Pt):RP:=⟨(p.t:Int),S p.iv.lo.num,S (p.iv.lo.den:Int),S p.iv.hi.num,S (p.iv.hi.den:Int)⟩
theorem rCells_raw (l:List Pt):rCells (l.map rawOf)=pCells l:=by
 induction l with
 | nil=>rfl
 | cons p l ih=>rw [List.map_cons,rCells_cons,pCells_cons,ih];rfl
/-- A point of any strings, put into a history. -/
def insR (l:List Pt) (x:RP):List RP:=(l.take (upTo l x.t)).map rawOf ++ x :: (l.drop (upTo l x.t)).map rawOf
theorem insR_length (l:List Pt) (x:RP):(insR l x).length=l.length+1:=by
 unfold insR
 simp
 have:=upTo_le l x.t
 omega
theorem insR_cells (l:List Pt) (x:RP):(pCells l).take (upTo l x.t * 5) ++ rC x ++ (pCells l).drop (upTo l x.t * 5)=rCells (insR l x):=by
 unfold insR
 rw [rCells_app,rCells_cons,rCells_raw,rCells_raw,pCells_take,pCells_drop,List.append_assoc]
theorem insR_mem (l:List Pt) (x:RP):x ∈ insR l x:=by unfold insR;simp
theorem insR_str {l:List Pt} {x:RP} {r:Rat} (ho:Hist.Ok ⟨r,l⟩) (hx:RStr x):∀ y,y ∈ insR l x→RStr y:=by
 intro y hy
 have raw:∀ p,p ∈ l→RStr (rawOf p):=fun p hp=>by
  have ht:=ho.times p hp
  obtain ⟨_,h1,h2⟩:=ho.ivs p hp
  have s:∀ {z:Int},Dig 40 z→Str (S z):=fun {z} h=>(is_S z).str (dig_fits h)
  exact ⟨by unfold rawOf IsInt;simp only;omega,s h1.1,s h1.2,s h2.1,s h2.2⟩
 unfold insR at hy
 rcases List.mem_append.1 hy with hy | hy
 ·obtain ⟨p,hp,rfl⟩:=List.mem_map.1 hy
  exact raw p (List.mem_of_mem_take hp)
 ·rcases List.mem_cons.1 hy with rfl | hy
  ·exact hx
  ·obtain ⟨p,hp,rfl⟩:=List.mem_map.1 hy
   exact raw p (List.mem_of_mem_drop hp)
 where dig_fits {z:Int} (h:Dig 40 z):Fits z:=Nat.lt_of_lt_of_le h (Nat.pow_le_pow_right (by decide) (by decide))
/-- A list that holds a point that is none is no history. -/
theorem insR_no {l:List Pt} {x:RP} (hx:¬ ptG x) {a b:ByteArray}:¬ ∃ H,HistS a b (insR l x) H:=fun ⟨H,h⟩=>by
 obtain ⟨i,hi,e⟩:=List.getElem_of_mem (insR_mem l x)
 exact hx ⟨_,by have:=h.pts i hi;rw [rpD_get hi,e] at this;exact this⟩
theorem dadd1r {r:Rat} {l:List Pt} {p:Option Addr} {n c i:Nat} {xt:Int} {xa xb xc xd:ByteArray} (hn:l.length=n) (hlt:i<l.length) (bh bt:Nat) (w:World) (rh:Row w bh (.cells #[.string (S r.num),.string (S (r.den:Int)),.slice p n c] 26)) (rt:Row w bt (.cells #[.int .i64 xt,.string xa,.string xb,.string xc,.string xd] 32)) (hp:PAt w p l):Calls Tryz.prog 65 #[.int .i64 (i:Int),.pointer (some ⟨bh,0,none⟩),.pointer (some ⟨bt,0,none⟩)] w (BoolOk (decide (xt<((ptD l i).t:Int))) w):=by
 have hB:Below w.heap.size w w:=Below.refl _ _
 obtain ⟨g,cur,rfl,rg,g0,g1,g2,g3,g4⟩:=PAt.at hp hlt
 clear g1 g2 g3 g4 hp
 generalize (ptD l i).t=q at *
 have hi:(i:Int)<(n:Int):=by omega
 clear hlt hn
 have sh:=RF3 rh
 have st:=RF5 rt
 have Fg:∀ X,Row X g (.cells cur 32)→(g<X.heap.size∧X.cell? ⟨g,i * 5,none⟩=some (.int .i64 (q:Int))):=fun X h=>⟨h.1,Row.cell_at h _ g0⟩
 have sg:=Fg _ rg
 go_enter Tryz.func65, Tryz.ntmps65
 go_wp2_with fail
 refine wp_region_items 9 [.val (.pointer (some ⟨bh,2,none⟩)),.val (.slice (some ⟨g,0,none⟩) n c),.val (.int .i64 (i:Int)),.val (.pointer (some ⟨g,i * 5,none⟩)),.val (.pointer (some ⟨g,i * 5,none⟩)),.val (.int .i64 (q:Int)),.val (.pointer (some ⟨bt,0,none⟩)),.val (.int .i64 xt),.val (.bool (decide (xt<(q:Int))))] (by kernel_rfl) (by kernel_rfl) trivial (allItems.cons qi0 (allItems.cons (qi1 fun X h=>RF3 (Row.below rh h)) (allItems.cons qi0 (allItems.cons (qif hi) (allItems.cons qi0 (allItems.cons (qi1 fun X h=>Fg X (Row.below rg h)) (allItems.cons qi0 (allItems.cons (qi1 fun X h=>RF5 (Row.below rt h)) (allItems.cons (qif hi) trivial))))))))) ?_
 rintro W h1
 have stp:=St3 hB h1 rh rt rg;clear hB h1 rh sh rt st rg sg
 obtain ⟨hB,rh,rt,rg⟩:=stp
 have sh:=RF3 rh
 have st:=RF5 rt
 have sg:=Fg _ rg
 simp only [setItems,List.setIfInBounds_toArray,List.set_cons_succ,List.set_cons_zero,List.take_succ_cons,List.take_zero,List.drop_succ_cons,List.drop_zero]
 go_wp2
 go_ret
 exact ⟨rfl,hB⟩
theorem dadd1r_find {r:Rat} {l:List Pt} {p:Option Addr} {n c:Nat} {xt:Int} {xa xb xc xd:ByteArray} (hn:l.length=n) (hn1:n≤1000) (hs:l.Pairwise fun a b=>a.t≤b.t) (bh bt:Nat) (w:World) (rh:Row w bh (.cells #[.string (S r.num),.string (S (r.den:Int)),.slice p n c] 26)) (rt:Row w bt (.cells #[.int .i64 xt,.string xa,.string xb,.string xc,.string xd] 32)) (hp:PAt w p l) :
  Calls Tryz.prog 59 #[.int .i64 (n:Int),.func (.func 65) #[] #[.pointer (some ⟨bh,0,none⟩),.pointer (some ⟨bt,0,none⟩)]] w fun e w'=>e = .returned (.int .i64 (upTo l xt:Int))∧Below w.heap.size w w':=by
 have eg:∀ args w,(callFunc 65 args).run Tryz.prog w = .ok (.enter 65 args) w:=enters_of Tryz.func65 (by kernel_rfl) rfl
 have h:=search_any n 65 #[.pointer (some ⟨bh,0,none⟩),.pointer (some ⟨bt,0,none⟩)] (fun i=>decide (xt<((ptD l i).t:Int))) w eg (by omega)
  (fun W i hi hB=>dadd1r hn (by omega) bh bt W (Row.below rh hB) (Row.below rt hB) (hp.below hB))
  (fun a b hab hb h=>by have:=sorted_mono hs hab (by omega);simp at h ⊢;omega)
 refine h.mono ?_
 rintro e w' ⟨⟨k,rfl,hk,h1,h2⟩,hB⟩
 refine ⟨?_,hB⟩
 rw [upTo_find (by omega) h1 (fun t a b=>h2 t a (by omega))]
theorem dadd_bad {r:Rat} {l:List Pt} {xt:Int} {xa xb xc xd:ByteArray} (ho:Hist.Ok ⟨r,l⟩) (p:Option Addr) (m c:Nat) (hm:l.length=m)
  (HV2:∀ q d W,RAt W q (insR l ⟨xt,xa,xb,xc,xd⟩)→Env W→Calls Tryz.prog 22 #[.agg #[.string (S r.num),.string (S (r.den:Int)),.slice q (m+1) d]] W (BoolOk false W)) (w:World) (hp:PAt w p l) (he:Env w) :
  Calls Tryz.prog 18 #[.agg #[.string (S r.num),.string (S (r.den:Int)),.slice p m c],.agg #[.int .i64 xt,.string xa,.string xb,.string xc,.string xd]] w (AddErr w):=by
 have hB:Below w.heap.size w w:=Below.refl _ _
 have MV:=fun W (hp:PAt W p l) (H:Env W)=>dvalid ho p m c hm W hp H
 have hfew:=ho.few
 simp only [hm] at hfew
 have hs:=ho.sorted
 have HP:=Lib.hid hp
 have hk:=upTo_le l xt
 rw [hm] at hk
 have MK:=fun W bh bt rh rt (hp:PAt W p l)=>dadd1r_find (r:=r) (c:=c) (xt:=xt) (xa:=xa) (xb:=xb) (xc:=xc) (xd:=xd) hm (by omega) hs bh bt W rh rt hp
 have MC:=fun W (hp:PAt W p l)=>dclone2 p m c hm (by omega) W hp
 have MI:=fun base vb q d W (hb:base≤W.heap.size) (hown:W.ownsRow base 32 5 (.slice q m d) m (pCells l)) (hv:Row W vb (.cells #[.int .i64 xt,.string xa,.string xb,.string xc,.string xd] 32)) (hne:(Value.slice q m d).ownBlock≠some vb)=>dinsert base (upTo l xt) m vb q d (pCells l) (rC ⟨xt,xa,xb,xc,xd⟩) (by omega) hk W hb hown hv rfl hne (pCells_one l) (rC_one _)
 have hins:(pCells l).take (upTo l xt * 5) ++ rC ⟨xt,xa,xb,xc,xd⟩ ++ (pCells l).drop (upTo l xt * 5)=rCells (insR l ⟨xt,xa,xb,xc,xd⟩):=insR_cells l ⟨xt,xa,xb,xc,xd⟩
 rw [hins] at MI
 have hlen:(insR l ⟨xt,xa,xb,xc,xd⟩).length=m+1:=by rw [insR_length,hm]
 have MV2:=HV2
 clear HV2
 unfold BoolOk HV at MV
 unfold BoolOk at MV2
 unfold AddErr
 simp only at MV
 have HIL:=Lib.hid hlen
 generalize upTo l xt=k at *
 generalize insR l ⟨xt,xa,xb,xc,xd⟩=l2 at *
 have hki:(k:Int)≤(m:Int):=by omega
 have hk0:(0:Int)≤(k:Int):=by omega
 clear hins ho hp hs hm hfew hlen
 go_enter Tryz.func18, Tryz.ntmps18
 go_wp2_with fail
 have d0_o:w.heap.size≤w.heap.size+1+1:=by have:=hB.size;omega
 have sB:=hB.size
 refine world_cut (fun X=>Below w.heap.size w X∧Row X w.heap.size (.cells #[.string (S r.num),.string (S (r.den:Int)),.slice p m c] 26)∧Row X (w.heap.size+1) (.cells #[.int .i64 xt,.string xa,.string xb,.string xc,.string xd] 32)∧Row X (w.heap.size+1+1) (.cells #[.string ⟨#[]⟩,.string ⟨#[]⟩,.slice none 0 0] 26)) ⟨BW,RWh,RWh,RWh⟩ ?_
 clear hB sB
 rintro V1 ⟨hB,rh,rq,ro⟩
 have sh:=RF3 rh
 have sq:=RF5 rq
 have so:=RFz3 ro
 refine (MV _ (HP.out.below hB) (he.below hB)).mono ?_
 rintro e W2 ⟨rfl,h1⟩
 have stp:=St3 hB h1 rh rq ro;clear hB h1 rh sh rq sq ro so
 obtain ⟨hB,rh,rq,ro⟩:=stp
 have sh:=RF3 rh
 have sq:=RF5 rq
 have so:=RFz3 ro
 go_wp2_with fail
 refine (MK _ _ _ rh rq (HP.out.below hB)).mono ?_
 rintro e W3 ⟨rfl,h1⟩
 have stp:=St3 hB h1 rh rq ro;clear hB h1 rh sh rq sq ro so
 obtain ⟨hB,rh,rq,ro⟩:=stp
 have sh:=RF3 rh
 have sq:=RF5 rq
 have so:=RFz3 ro
 go_upto_region 4 with fail
 have vo:=ro.1
 obtain ⟨V,hV⟩:∃ x:World,x=W3:=⟨_,rfl⟩
 subst hV
 refine Code.wp_mono (Q:=fun ex ac wx=>ex = .normal∧∃ (bo c2:Nat) (p2:Option Addr) (u17 u18 u19 u20 u21 u22 u23 u24 u25 u26:Value),ac={ tmps:=#[.agg #[.string (S r.num),.string (S (r.den:Int)),.slice p m c],.agg #[.int .i64 xt,.string xa,.string xb,.string xc,.string xd],.pointer (some ⟨w.heap.size,0,none⟩),.pointer (some ⟨w.heap.size+1,0,none⟩),.pointer (some ⟨w.heap.size+1+1,0,none⟩),.int .i64 0,.int .i64 (k:Int),.pointer (some ⟨bo,0,none⟩),.agg #[.string (S r.num),.string (S (r.den:Int)),.slice p m c],.bool true,.bool false,undef,.pointer (some ⟨w.heap.size,2,none⟩),.slice p m c,.int .i64 (m:Int),.func (.func 65) #[] #[.pointer (some ⟨w.heap.size,0,none⟩),.pointer (some ⟨w.heap.size+1,0,none⟩)],.int .i64 (k:Int),u17,u18,u19,u20,u21,u22,u23,u24,u25,u26,undef,undef,undef,undef,undef],defers:=[] }∧Below w.heap.size w wx∧Row wx (w.heap.size+1+1) (.cells #[.string ⟨#[]⟩,.string ⟨#[]⟩,.slice none 0 0] 26)∧Row wx bo (.cells #[.string (S r.num),.string (S (r.den:Int)),.slice p2 (m+1) c2] 26)∧bo≠w.heap.size+1+1∧w.heap.size≤bo∧wx.ownsRow V.heap.size 32 5 (.slice p2 (m+1) c2) (m+1) (rCells l2)) ?rest ?first
 case first =>
  have KK:∀ X,Row X (w.heap.size) (.cells #[.string (S r.num),.string (S (r.den:Int)),.slice p m c] 26)→Row X (w.heap.size+1) (.cells #[.int .i64 xt,.string xa,.string xb,.string xc,.string xd] 32)→(X.cell? ⟨w.heap.size,0,none⟩=some (.string (S r.num))∧X.cell? ⟨w.heap.size,1,none⟩=some (.string (S (r.den:Int)))∧X.cell? ⟨w.heap.size,2,none⟩=some (.slice p m c)∧X.cell? ⟨w.heap.size+1,0,none⟩=some (.int .i64 xt)∧X.cell? ⟨w.heap.size+1,1,none⟩=some (.string xa)∧X.cell? ⟨w.heap.size+1,2,none⟩=some (.string xb)∧X.cell? ⟨w.heap.size+1,3,none⟩=some (.string xc)∧X.cell? ⟨w.heap.size+1,4,none⟩=some (.string xd)):=fun X h1 h2=>⟨Row.cell_at h1 0 rfl,Row.cell_at h1 1 rfl,Row.cell_at h1 2 rfl,Row.cell_at h2 0 rfl,Row.cell_at h2 1 rfl,Row.cell_at h2 2 rfl,Row.cell_at h2 3 rfl,Row.cell_at h2 4 rfl⟩
  clear sh
  clear sq
  clear so
  have tok1:True:=trivial
  go_region_held3 (fun X=>X.cell? ⟨w.heap.size,0,none⟩=some (.string (S r.num))∧X.cell? ⟨w.heap.size,1,none⟩=some (.string (S (r.den:Int)))∧X.cell? ⟨w.heap.size,2,none⟩=some (.slice p m c)∧X.cell? ⟨w.heap.size+1,0,none⟩=some (.int .i64 xt)∧X.cell? ⟨w.heap.size+1,1,none⟩=some (.string xa)∧X.cell? ⟨w.heap.size+1,2,none⟩=some (.string xb)∧X.cell? ⟨w.heap.size+1,3,none⟩=some (.string xc)∧X.cell? ⟨w.heap.size+1,4,none⟩=some (.string xd)) (first | exact KK _ RWh RWh) (first
    | (go_at_call 64; have _t:=tok1;refine Calls.mono (MC _ (HP.out.below BW)) ?_;rintro e W1 ⟨p1,c1,hown,rfl,h1⟩;have hlt1:=hown.lt;(first | (refine with_fact (p:=Row W1 (V.heap.size) (.cells #[.string ⟨#[]⟩,.string ⟨#[]⟩,.slice none 0 0] 26)) ?_ ?_;(focus (refine Row.below ?_ h1;(repeat (first | (with_reducible assumption) | (with_reducible exact row_new' (by first | omega | (simp;done) | (simp;omega))) | (with_reducible refine Row.drew ?_) | (with_reducible refine Row.drewN ?_ _) | (with_reducible refine Row.alloc ?_ _) | (with_reducible refine Row.set_other ?_ _ (by first | omega | (simp;done) | (simp;omega)))));done));intro rz) | (refine with_fact (p:=Row W1 (V.heap.size+1) (.cells #[.string ⟨#[]⟩,.string ⟨#[]⟩,.slice none 0 0] 26)) ?_ ?_;(focus (refine Row.below ?_ h1;(repeat (first | (with_reducible assumption) | (with_reducible exact row_new' (by first | omega | (simp;done) | (simp;omega))) | (with_reducible refine Row.drew ?_) | (with_reducible refine Row.drewN ?_ _) | (with_reducible refine Row.alloc ?_ _) | (with_reducible refine Row.set_other ?_ _ (by first | omega | (simp;done) | (simp;omega)))));done));intro rz) | (refine with_fact (p:=Row W1 (V.heap.size+1+1) (.cells #[.string ⟨#[]⟩,.string ⟨#[]⟩,.slice none 0 0] 26)) ?_ ?_;(focus (refine Row.below ?_ h1;(repeat (first | (with_reducible assumption) | (with_reducible exact row_new' (by first | omega | (simp;done) | (simp;omega))) | (with_reducible refine Row.drew ?_) | (with_reducible refine Row.drewN ?_ _) | (with_reducible refine Row.alloc ?_ _) | (with_reducible refine Row.set_other ?_ _ (by first | omega | (simp;done) | (simp;omega)))));done));intro rz) | skip);(first | (refine with_fact (p:=Row W1 (V.heap.size) (.cells #[.int .i64 xt,.string xa,.string xb,.string xc,.string xd] 32)) ?_ ?_;(focus (refine Row.below ?_ h1;(repeat (first | (with_reducible assumption) | (with_reducible exact row_new' (by first | omega | (simp;done) | (simp;omega))) | (with_reducible refine Row.drew ?_) | (with_reducible refine Row.drewN ?_ _) | (with_reducible refine Row.alloc ?_ _) | (with_reducible refine Row.set_other ?_ _ (by first | omega | (simp;done) | (simp;omega)))));done));intro rv) | (refine with_fact (p:=Row W1 (V.heap.size+1) (.cells #[.int .i64 xt,.string xa,.string xb,.string xc,.string xd] 32)) ?_ ?_;(focus (refine Row.below ?_ h1;(repeat (first | (with_reducible assumption) | (with_reducible exact row_new' (by first | omega | (simp;done) | (simp;omega))) | (with_reducible refine Row.drew ?_) | (with_reducible refine Row.drewN ?_ _) | (with_reducible refine Row.alloc ?_ _) | (with_reducible refine Row.set_other ?_ _ (by first | omega | (simp;done) | (simp;omega)))));done));intro rv) | (refine with_fact (p:=Row W1 (V.heap.size+1+1) (.cells #[.int .i64 xt,.string xa,.string xb,.string xc,.string xd] 32)) ?_ ?_;(focus (refine Row.below ?_ h1;(repeat (first | (with_reducible assumption) | (with_reducible exact row_new' (by first | omega | (simp;done) | (simp;omega))) | (with_reducible refine Row.drew ?_) | (with_reducible refine Row.drewN ?_ _) | (with_reducible refine Row.alloc ?_ _) | (with_reducible refine Row.set_other ?_ _ (by first | omega | (simp;done) | (simp;omega)))));done));intro rv) | skip);replace rh:Row W1 (w.heap.size) (.cells #[.string (S r.num),.string (S (r.den:Int)),.slice p m c] 26):=Row.below RWh h1;replace rq:Row W1 (w.heap.size+1) (.cells #[.int .i64 xt,.string xa,.string xb,.string xc,.string xd] 32):=Row.below RWh h1;replace ro:Row W1 (w.heap.size+1+1) (.cells #[.string ⟨#[]⟩,.string ⟨#[]⟩,.slice none 0 0] 26):=Row.below RWh h1;replace hown:=own_at hown (base':=V.heap.size) (by first | omega | (simp;done) | (simp;omega));replace hB:Below w.heap.size w W1:=bstep h1 BW;have w1o:=ro.1;have hsz1:V.heap.size≤W1.heap.size:=Nat.le_trans (by first | exact Nat.le_refl _ | (simp;done) | (simp;omega)) h1.size;(try simp only [World.size_alloc] at hlt1);  clear _t tok1;have tok2:True:=trivial)
    | (go_at_call 66; have _t:=tok2;refine Calls.mono (MI V.heap.size _ _ _ _ ?hb ?hw ?hv ?hn) ?_;(case hb=>first | omega | (simp;omega));(case hw=>exact OW);(case hv=>exact RWh);(case hn=>intro e;have:=hlt1 _ e;first | omega | (simp at *;omega));rintro e W2 ⟨p2,c2,rfl,hown2,hg2⟩;(first | (refine with_fact (p:=Row W2 (V.heap.size) (.cells #[.string ⟨#[]⟩,.string ⟨#[]⟩,.slice none 0 0] 26)) ?_ ?_;(focus (refine row_append (n₀:=V.heap.size) (T := 32) (k:=5) (n:=m) (v := .slice p1 m c1) (xs:=pCells l) ?_ hg2 ?_ (by decide);(focus ((repeat (first | (with_reducible assumption) | (with_reducible refine own_dr ?_) | (with_reducible refine own_drN ?_ _) | (with_reducible refine World.ownsRow.alloc ?_ _)));done));(repeat (first | (with_reducible assumption) | (with_reducible exact row_new' (by first | omega | (simp;done) | (simp;omega))) | (with_reducible refine Row.drew ?_) | (with_reducible refine Row.drewN ?_ _) | (with_reducible refine Row.alloc ?_ _) | (with_reducible refine Row.set_other ?_ _ (by first | omega | (simp;done) | (simp;omega)))));done));intro rz2;have z0:=Row.cell_at rz2 0 rfl;have z1:=Row.cell_at rz2 1 rfl;have z2:=Row.cell_at rz2 2 rfl;have zf0:=frozen_of_row _ _ 0 _ _ rz2.2;have zf1:=frozen_of_row _ _ 1 _ _ rz2.2;have zf2:=frozen_of_row _ _ 2 _ _ rz2.2;have zs:=rz2.1) | (refine with_fact (p:=Row W2 (V.heap.size+1) (.cells #[.string ⟨#[]⟩,.string ⟨#[]⟩,.slice none 0 0] 26)) ?_ ?_;(focus (refine row_append (n₀:=V.heap.size) (T := 32) (k:=5) (n:=m) (v := .slice p1 m c1) (xs:=pCells l) ?_ hg2 ?_ (by decide);(focus ((repeat (first | (with_reducible assumption) | (with_reducible refine own_dr ?_) | (with_reducible refine own_drN ?_ _) | (with_reducible refine World.ownsRow.alloc ?_ _)));done));(repeat (first | (with_reducible assumption) | (with_reducible exact row_new' (by first | omega | (simp;done) | (simp;omega))) | (with_reducible refine Row.drew ?_) | (with_reducible refine Row.drewN ?_ _) | (with_reducible refine Row.alloc ?_ _) | (with_reducible refine Row.set_other ?_ _ (by first | omega | (simp;done) | (simp;omega)))));done));intro rz2;have z0:=Row.cell_at rz2 0 rfl;have z1:=Row.cell_at rz2 1 rfl;have z2:=Row.cell_at rz2 2 rfl;have zf0:=frozen_of_row _ _ 0 _ _ rz2.2;have zf1:=frozen_of_row _ _ 1 _ _ rz2.2;have zf2:=frozen_of_row _ _ 2 _ _ rz2.2;have zs:=rz2.1) | (refine with_fact (p:=Row W2 (V.heap.size+1+1) (.cells #[.string ⟨#[]⟩,.string ⟨#[]⟩,.slice none 0 0] 26)) ?_ ?_;(focus (refine row_append (n₀:=V.heap.size) (T := 32) (k:=5) (n:=m) (v := .slice p1 m c1) (xs:=pCells l) ?_ hg2 ?_ (by decide);(focus ((repeat (first | (with_reducible assumption) | (with_reducible refine own_dr ?_) | (with_reducible refine own_drN ?_ _) | (with_reducible refine World.ownsRow.alloc ?_ _)));done));(repeat (first | (with_reducible assumption) | (with_reducible exact row_new' (by first | omega | (simp;done) | (simp;omega))) | (with_reducible refine Row.drew ?_) | (with_reducible refine Row.drewN ?_ _) | (with_reducible refine Row.alloc ?_ _) | (with_reducible refine Row.set_other ?_ _ (by first | omega | (simp;done) | (simp;omega)))));done));intro rz2;have z0:=Row.cell_at rz2 0 rfl;have z1:=Row.cell_at rz2 1 rfl;have z2:=Row.cell_at rz2 2 rfl;have zf0:=frozen_of_row _ _ 0 _ _ rz2.2;have zf1:=frozen_of_row _ _ 1 _ _ rz2.2;have zf2:=frozen_of_row _ _ 2 _ _ rz2.2;have zs:=rz2.1) | (refine with_fact (p:=Row W2 (W1.heap.size) (.cells #[.string ⟨#[]⟩,.string ⟨#[]⟩,.slice none 0 0] 26)) ?_ ?_;(focus (refine row_append (n₀:=V.heap.size) (T := 32) (k:=5) (n:=m) (v := .slice p1 m c1) (xs:=pCells l) ?_ hg2 ?_ (by decide);(focus ((repeat (first | (with_reducible assumption) | (with_reducible refine own_dr ?_) | (with_reducible refine own_drN ?_ _) | (with_reducible refine World.ownsRow.alloc ?_ _)));done));(repeat (first | (with_reducible assumption) | (with_reducible exact row_new' (by first | omega | (simp;done) | (simp;omega))) | (with_reducible refine Row.drew ?_) | (with_reducible refine Row.drewN ?_ _) | (with_reducible refine Row.alloc ?_ _) | (with_reducible refine Row.set_other ?_ _ (by first | omega | (simp;done) | (simp;omega)))));done));intro rz2;have z0:=Row.cell_at rz2 0 rfl;have z1:=Row.cell_at rz2 1 rfl;have z2:=Row.cell_at rz2 2 rfl;have zf0:=frozen_of_row _ _ 0 _ _ rz2.2;have zf1:=frozen_of_row _ _ 1 _ _ rz2.2;have zf2:=frozen_of_row _ _ 2 _ _ rz2.2;have zs:=rz2.1) | (refine with_fact (p:=Row W2 (W1.heap.size+1) (.cells #[.string ⟨#[]⟩,.string ⟨#[]⟩,.slice none 0 0] 26)) ?_ ?_;(focus (refine row_append (n₀:=V.heap.size) (T := 32) (k:=5) (n:=m) (v := .slice p1 m c1) (xs:=pCells l) ?_ hg2 ?_ (by decide);(focus ((repeat (first | (with_reducible assumption) | (with_reducible refine own_dr ?_) | (with_reducible refine own_drN ?_ _) | (with_reducible refine World.ownsRow.alloc ?_ _)));done));(repeat (first | (with_reducible assumption) | (with_reducible exact row_new' (by first | omega | (simp;done) | (simp;omega))) | (with_reducible refine Row.drew ?_) | (with_reducible refine Row.drewN ?_ _) | (with_reducible refine Row.alloc ?_ _) | (with_reducible refine Row.set_other ?_ _ (by first | omega | (simp;done) | (simp;omega)))));done));intro rz2;have z0:=Row.cell_at rz2 0 rfl;have z1:=Row.cell_at rz2 1 rfl;have z2:=Row.cell_at rz2 2 rfl;have zf0:=frozen_of_row _ _ 0 _ _ rz2.2;have zf1:=frozen_of_row _ _ 1 _ _ rz2.2;have zf2:=frozen_of_row _ _ 2 _ _ rz2.2;have zs:=rz2.1) | skip);(refine with_fact (p:=Row W2 (w.heap.size+1+1) (.cells #[.string ⟨#[]⟩,.string ⟨#[]⟩,.slice none 0 0] 26)) ?_ ?_;(focus (refine own_row_ne (n₀:=V.heap.size) (T := 32) (k:=5) (n:=m) (v := .slice p1 m c1) (xs:=pCells l) ?_ hg2 ?_ vo;(focus ((repeat (first | (with_reducible assumption) | (with_reducible refine own_dr ?_) | (with_reducible refine own_drN ?_ _) | (with_reducible refine World.ownsRow.alloc ?_ _)));done));(repeat (first | (with_reducible assumption) | (with_reducible exact row_new' (by first | omega | (simp;done) | (simp;omega))) | (with_reducible refine Row.drew ?_) | (with_reducible refine Row.drewN ?_ _) | (with_reducible refine Row.alloc ?_ _) | (with_reducible refine Row.set_other ?_ _ (by first | omega | (simp;done) | (simp;omega)))));done));clear ro;intro ro);(refine with_fact (p:=Row W2 (w.heap.size) (.cells #[.string (S r.num),.string (S (r.den:Int)),.slice p m c] 26)) ?_ ?_;(focus (refine own_row_ne (n₀:=V.heap.size) (T := 32) (k:=5) (n:=m) (v := .slice p1 m c1) (xs:=pCells l) ?_ hg2 ?_ (by omega);(focus ((repeat (first | (with_reducible assumption) | (with_reducible refine own_dr ?_) | (with_reducible refine own_drN ?_ _) | (with_reducible refine World.ownsRow.alloc ?_ _)));done));(repeat (first | (with_reducible assumption) | (with_reducible exact row_new' (by first | omega | (simp;done) | (simp;omega))) | (with_reducible refine Row.drew ?_) | (with_reducible refine Row.drewN ?_ _) | (with_reducible refine Row.alloc ?_ _) | (with_reducible refine Row.set_other ?_ _ (by first | omega | (simp;done) | (simp;omega)))));done));clear rh;intro rh);(refine with_fact (p:=Row W2 (w.heap.size+1) (.cells #[.int .i64 xt,.string xa,.string xb,.string xc,.string xd] 32)) ?_ ?_;(focus (refine own_row_ne (n₀:=V.heap.size) (T := 32) (k:=5) (n:=m) (v := .slice p1 m c1) (xs:=pCells l) ?_ hg2 ?_ (by omega);(focus ((repeat (first | (with_reducible assumption) | (with_reducible refine own_dr ?_) | (with_reducible refine own_drN ?_ _) | (with_reducible refine World.ownsRow.alloc ?_ _)));done));(repeat (first | (with_reducible assumption) | (with_reducible exact row_new' (by first | omega | (simp;done) | (simp;omega))) | (with_reducible refine Row.drew ?_) | (with_reducible refine Row.drewN ?_ _) | (with_reducible refine Row.alloc ?_ _) | (with_reducible refine Row.set_other ?_ _ (by first | omega | (simp;done) | (simp;omega)))));done));clear rq;intro rq);(refine with_fact (p:=Below w.heap.size w W2) ?_ ?_;(focus (refine Below.grown ?_ hg2 ?_ ?_;(focus (exact BW));(focus (first | omega | (simp;omega)));(focus (intro k hk;have hk2:=(World.ownsRow.lt hown k hk).1;omega))));clear hB;intro hB);have w2o:=ro.1))
  all_goals (refine ⟨rfl,_,c2,p2,_,_,_,_,_,_,_,_,_,_,rfl,?_,?_,?_,?_,?_,?_⟩)
  all_goals first | (with_reducible exact hB) | ((repeat (first | (with_reducible exact hB) | (with_reducible refine Below.alloc ?_ (by first | omega | (simp;done) | (simp;omega)) _) | (with_reducible refine Below.setCell ?_ (by first | omega | (simp;done) | (simp;omega)) _)));done) | (with_reducible exact ro) | omega | ((repeat (first | (with_reducible assumption) | (with_reducible exact row_new' (by first | omega | (simp;done) | (simp;omega))) | (with_reducible refine Row.alloc ?_ _) | (with_reducible apply Row.set3) | (with_reducible refine Row.set_other ?_ _ (by first | omega | (simp;done) | (simp;omega)))));done) | ((repeat (first | (with_reducible assumption) | (with_reducible refine own_dr ?_) | (with_reducible refine own_drN ?_ _) | (with_reducible refine World.ownsRow.alloc ?_ _)));done) | (refine own_set3 (vs:=#[.string ⟨#[]⟩,.string ⟨#[]⟩,.slice none 0 0]) (T' := 26) ?_ ?_ (by decide);(focus ((repeat (first | (with_reducible assumption) | (with_reducible refine own_dr ?_) | (with_reducible refine own_drN ?_ _) | (with_reducible refine World.ownsRow.alloc ?_ _)));done));(repeat (first | (with_reducible assumption) | (with_reducible exact row_new' (by first | omega | (simp;done) | (simp;omega))) | (with_reducible refine Row.drew ?_) | (with_reducible refine Row.drewN ?_ _) | (with_reducible refine Row.alloc ?_ _) | (with_reducible refine Row.set_other ?_ _ (by first | omega | (simp;done) | (simp;omega)))));done) | (simp;omega)
 case rest =>
  clear MC MI MK MV HP rh rq ro hB
  clear sh
  clear sq
  clear so
  rintro ex ac wx ⟨rfl,bo,c2,p2,u17,u18,u19,u20,u21,u22,u23,u24,u25,u26,rfl,hB,ro,rz,hne,hle,hown⟩
  have so:=RFz3 ro
  have sz:=RF3 rz
  have hVw:w.heap.size≤V.heap.size:=by omega
  have HPA:RAt wx p2 l2:=own_ratR hown HIL.out
  have HPA:=Lib.hid HPA
  clear hown
  have hwx:Below wx.heap.size wx wx:=Below.refl _ _
  go_wp2_with fail
  refine (MV2 _ _ _ (HPA.out.below (Below.refl _ _)) (he.below hB)).mono ?_
  rintro e W4 ⟨rfl,h1⟩
  have stp:=St2 hB h1 ro rz;clear hB h1 ro so rz sz
  obtain ⟨hB,ro,rz⟩:=stp
  have so:=RFz3 ro
  have sz:=RF3 rz
  go_wp2_with fail
  have sB:=hB.size
  refine post_cut (fun X=>Below w.heap.size w X∧Row X (w.heap.size+1+1) (.cells #[.string ⟨#[]⟩,.string ⟨#[]⟩,.slice none 0 0] 26)∧Row X bo (.cells #[.string (S r.num),.string (S (r.den:Int)),.slice p2 (m+1) c2] 26)) ⟨BW,RWh,RWh⟩ ?_
  clear ro
  clear so
  clear rz
  clear sz
  clear hB sB
  rintro V5 ⟨hB,ro,rz⟩
  have so:=RFz3 ro
  have sz:=RF3 rz
  refine bodyPost_ret (v := .tuple #[.agg #[.string ⟨#[]⟩,.string ⟨#[]⟩,.slice none 0 0],.int .i64 120]) ?res rfl ⟨rfl,hB⟩
  case res=>simp [results,Tryz.results18, go_sem,so]
end Go.Proofs.YtnokpldomlmamaaGreatDoor
namespace Go.Proofs.YtnokpldomlmamaaGreatDoor
open Go Go.RowKit Go.Lib Go.ChangeShapes Go.WideShapes
/-- Integers k by k, in memory. -/
def XK (k:Nat) (W:World) (p:Option Addr) (n:Nat) (f:Nat→Nat→Int):Prop:=n=0∨∃ g o,p=some ⟨g,o,none⟩∧g<W.heap.size∧∀ i j,i<n→j<k→W.cell? ⟨g,o+i * k+j,none⟩=some (.int .i64 (f i j))
theorem XK.below {k:Nat} {W W':World} {p:Option Addr} {n:Nat} {f:Nat→Nat→Int} (h:XK k W p n f) (hB:Below W.heap.size W W'):XK k W' p n f :=
 h.elim .inl fun ⟨g,o,e,hg,hc⟩ => .inr ⟨g,o,e,Nat.lt_of_lt_of_le hg hB.size,fun i j hi hj=>(hB.cell (p:=⟨g,_,none⟩) hg).trans (hc i j hi hj)⟩
theorem cellLt {W:World} {a:Addr} {v:Value} (h:W.cell? a=some v):a.block<W.heap.size:=by
 unfold World.cell? at h
 by_cases hb:a.block<W.heap.size
 ·exact hb
 ·have:W.heap[a.block]? = none:=by simpa using hb
  rw [this] at h
  simp at h
theorem trodLt {H:Type} {enc:TypeId × Value→H} {W:World} {t:TypeId} {v:Value} {d:DataW H} {ps:List MemPlace} (h:DataW.Trod enc Tryz.prog W 0 (fun _=>true) true t v d ps):∀ x ∈ ps,x.block<W.heap.size:=fun x hx=>by
 obtain ⟨n,h⟩:=h
 exact DataW.trod_lt n _ _ _ h x hx
/-- An argument that is a slice of arrays of k integers. -/
theorem open_rowsK {H:Type} {enc:TypeId × Value→H} {W:World} {k:Nat} {t e:TypeId} (ht:Tryz.prog.underlying t=some (.slice e)) (he:Tryz.prog.underlying e=some (.array k 3)) (hc:Tryz.prog.cellsOf e=k) (hk:0<k)
  {v:Value} {d:DataW H} {ps:List MemPlace} {base:Nat} (hv:Value.okWide Tryz.prog W .any base t v) (h:DataW.Trod enc Tryz.prog W 0 (fun _=>true) true t v d ps) :
  ∃ p n c f,v = .slice p n c∧n≤9223372036854775807∧XK k W p n f∧∀ i j,i<n→j<k→IsInt (f i j):=by
 obtain ⟨p,n,c,rfl⟩:=okWide_slice ht hv
 obtain ⟨fuel,hf⟩:=h
 have ci:Tryz.prog.cellsOf 3 = 1:=by kernel_rfl
 rcases Go.Deep.open_slice ht hf with ⟨h0,_⟩ | ⟨a,len,cap,m,nf,D,Pl,h0,hb,hl,hm,hmm,_,hx⟩
 ·simp [Value.cells] at h0
  obtain ⟨rfl,rfl,rfl⟩:=h0
  exact ⟨none,0,0,fun _ _=>0,rfl,by omega,.inl rfl,by omega⟩
 ·simp [Value.cells] at h0
  obtain ⟨rfl,rfl,rfl⟩:=h0
  rw [hc] at hx
  have hmn:n≤m:=by rw [hmm];simpa using hl
  have key:∀ i,i<n→∃ g:Nat→Int,∀ j,j<k→W.cell? ((a.add (i * k)).add j)=some (.int .i64 (g j))∧IsInt (g j):=by
   intro i hi
   obtain ⟨cs',h1,h2⟩:=hx i (by omega)
   obtain ⟨_,hlen,hcell⟩:=World.cells?_some h1
   obtain ⟨ys,m',_,_,_,hy,hj⟩:=DataW.trod_array he h2
   obtain ⟨g,hg⟩:=Go.Deep.choose_lt (α:=Int) (n:=k) (p:=fun j z=>cs'[j]? = some (.int .i64 z)∧IsInt z) (fun j hjk=>by
    have e1:=hj j hjk
    rw [ci,Nat.mul_one] at e1
    rw [List.getElem?_eq_getElem (show j<ys.length by omega)] at e1
    obtain ⟨z,ez,_,hz⟩:=DataW.trod_int Tryz.underlying3 e1
    refine ⟨z,?_,isInt_wf hz⟩
    have e2:=congrArg (fun l=>l[0]?) ez
    simpa using e2)
   exact ⟨g,fun j hjk=>⟨(hcell j hjk).trans (hg j hjk).1,(hg j hjk).2⟩⟩
  obtain ⟨F,hF⟩:=Go.Deep.choose_lt (α:=Nat→Int) key
  refine ⟨some a,n,c,F,rfl,?_,?_,fun i j hi hj=>(hF i hi j hj).2⟩
  ·have:maxLen=9223372036854775807:=by decide
   omega
  ·by_cases hn:n=0
   ·exact .inl hn
   right
   obtain ⟨b,o,s⟩:=a
   have h00:=(hF 0 (by omega) 0 hk).1
   have hs:s=none:=by simpa [Addr.add] using World.cell?_spot h00
   subst hs
   have ea:∀ x:Nat,(⟨b,o,none⟩:Addr).add x=⟨b,o+x,none⟩:=fun x=>by unfold Addr.add;split <;> simp_all
   have eb:∀ y x:Nat,(⟨b,y,none⟩:Addr).add x=⟨b,y+x,none⟩:=fun y x=>by unfold Addr.add;split <;> simp_all
   refine ⟨b,o,rfl,by have:=cellLt h00;rwa [ea,eb] at this,fun i j hi hj => ?_⟩
   have:=(hF i hi j hj).1
   rwa [ea,eb] at this
end Go.Proofs.YtnokpldomlmamaaGreatDoor
namespace Go.Proofs.YtnokpldomlmamaaGreatDoor
open Go Go.RowKit Go.Lib Go.Shelf
attribute [local go_sem] normalQ
theorem own_setM {W:World} {base k n n1 b i:Nat} {T:TypeId} {v u:Value} {xs:List Value} (h:W.ownsRow base T k v n xs) (hv:∀ g,v.ownBlock=some g→g<n1) (hb:n1≤b):(W.setCell ⟨b,i,none⟩ u).ownsRow base T k v n xs:=ownsRow_setCell_other h (a:=⟨b,i,none⟩) (fun e=>by have:=hv b e;omega) u
theorem OWM {P:Prop} (h:P:=by repeat (first | (with_reducible assumption) | (with_reducible refine own_dr ?_) | (with_reducible refine own_drN ?_ _) | (with_reducible refine World.ownsRow.alloc ?_ _) | (with_reducible refine own_setM ?_ (by assumption) (by first | omega | (simp;omega))))):P:=h
def cutS (a:ByteArray):ByteArray:=a.extract 0 (min (a.size:Int) 45).toNat
theorem cutS_size (a:ByteArray):(cutS a).size≤45:=by
 unfold cutS
 rw [ByteArray.size_extract]
 omega
theorem cutS_str (a:ByteArray):Str (cutS a):=by have:=cutS_size a;unfold Str;omega
def cutP (x:RP):RP:=⟨x.t,cutS x.a,cutS x.b,cutS x.c,cutS x.d⟩
/-- Points of any strings, in the memory of an argument. -/
def XP (W:World) (p:Option Addr) (n:Nat) (f:Nat→RP):Prop:=n=0∨∃ g o,p=some ⟨g,o,none⟩∧g<W.heap.size∧∀ i,i<n→W.cell? ⟨g,o+i * 5,none⟩=some (.int .i64 (f i).t)∧W.cell? ⟨g,o+i * 5+1,none⟩=some (.string (f i).a)∧W.cell? ⟨g,o+i * 5+2,none⟩=some (.string (f i).b)∧W.cell? ⟨g,o+i * 5+3,none⟩=some (.string (f i).c)∧W.cell? ⟨g,o+i * 5+4,none⟩=some (.string (f i).d)
def fewL (n:Nat) (f:Nat→RP):Nat→List RP
 | 0=>[]
 | k+1=>fewL n f k ++ [cutP (f k)]
theorem fewL_length (n:Nat) (f:Nat→RP):∀ k,(fewL n f k).length=k
 | 0=>rfl
 | k+1=>by unfold fewL;rw [List.length_append,fewL_length n f k];rfl
theorem fewL_str (n:Nat) (f:Nat→RP) (hf:∀ i,i<n→IsInt (f i).t):∀ k,k≤n→∀ x,x ∈ fewL n f k→RStr x
 | 0,_,x,h=>absurd h (by simp [fewL])
 | k+1,hk,x,h=>by
  unfold fewL at h
  rcases List.mem_append.1 h with h | h
  ·exact fewL_str n f hf k (by omega) x h
  ·simp only [List.mem_singleton] at h
   subst h
   exact ⟨hf k (by omega),cutS_str _,cutS_str _,cutS_str _,cutS_str _⟩
def ShortOk (a b:ByteArray) (w:World) (e:Ending) (w':World):Prop:=e = .returned (.agg #[.string (cutS a),.string (cutS b)])∧Below w.heap.size w w'
theorem lshort (a b:ByteArray) (w:World):Calls Tryz.prog 8 #[.agg #[.string a,.string b]] w (ShortOk a b w):=by
 have hB:Below w.heap.size w w:=Below.refl _ _
 go_enter Tryz.func8, Tryz.ntmps8
 have hfx:=Lib.hid (And.intro (show min (a.size:Int) 45≤(a.size:Int) by omega) (And.intro (show 0≤min (a.size:Int) 45 by omega) (And.intro (show min (b.size:Int) 45≤(b.size:Int) by omega) (show 0≤min (b.size:Int) 45 by omega))))
 go_wp2_with fail
 have d0_o:w.heap.size≤w.heap.size+1:=by have:=hB.size;omega
 have sB:=hB.size
 refine wp_cut (fun X=>Below w.heap.size w X∧Row X w.heap.size (.cells #[.string a,.string b] 23)∧Row X (w.heap.size+1) (.cells #[.string ⟨#[]⟩,.string ⟨#[]⟩] 23)) ⟨BW,RWk,RWk⟩ ?_
 clear hB sB
 rintro V1 ⟨hB,rr,ro⟩
 have sr:=RF2 rr
 have so:=RFz2 ro
 refine wp_region_items 15 [.val (.pointer (some ⟨w.heap.size,0,none⟩)),.val (.string a),.val (.pointer (some ⟨w.heap.size,0,none⟩)),.val (.string a),.val (.int .i64 ((a:ByteArray).size:Int)),.val (.int .i64 (min (a.size:Int) 45)),.val (.string (a.extract 0 (min (a.size:Int) 45).toNat)),.val (.pointer (some ⟨w.heap.size,1,none⟩)),.val (.string b),.val (.pointer (some ⟨w.heap.size,1,none⟩)),.val (.string b),.val (.int .i64 ((b:ByteArray).size:Int)),.val (.int .i64 (min (b.size:Int) 45)),.val (.string (b.extract 0 (min (b.size:Int) 45).toNat)),.val (.agg #[.string (a.extract 0 (min (a.size:Int) 45).toNat),.string (b.extract 0 (min (b.size:Int) 45).toNat)])] (by kernel_rfl) (by kernel_rfl) trivial (allItems.cons qi0 (allItems.cons (qi1 fun X h=>RF2 (Row.below rr h)) (allItems.cons qi0 (allItems.cons (qi1 fun X h=>RF2 (Row.below rr h)) (allItems.cons (qif hfx.out) (allItems.cons (qif hfx.out) (allItems.cons (qif hfx.out) (allItems.cons qi0 (allItems.cons (qi1 fun X h=>RF2 (Row.below rr h)) (allItems.cons qi0 (allItems.cons (qi1 fun X h=>RF2 (Row.below rr h)) (allItems.cons (qif hfx.out) (allItems.cons (qif hfx.out) (allItems.cons (qif hfx.out) (allItems.cons (qif hfx.out) trivial))))))))))))))) ?_
 rintro W h1
 have stp:=St2 hB h1 rr ro;clear hB h1 rr sr ro so
 obtain ⟨hB,rr,ro⟩:=stp
 have sr:=RF2 rr
 have so:=RFz2 ro
 simp only [setItems,List.setIfInBounds_toArray,List.set_cons_succ,List.set_cons_zero,List.take_succ_cons,List.take_zero,List.drop_succ_cons,List.drop_zero]
 go_wp2_with fail
 have sB:=hB.size
 refine post_cut (fun X=>Below w.heap.size w X∧Row X (w.heap.size+1) (.cells #[.string (a.extract 0 (min (a.size:Int) 45).toNat),.string (b.extract 0 (min (b.size:Int) 45).toNat)] 23)) ⟨BW,RWk⟩ ?_
 clear rr
 clear sr
 clear ro
 clear so
 clear hB sB
 rintro V2 ⟨hB,ro⟩
 have so:=RFz2 ro
 refine bodyPost_ret (v := .agg #[.string (a.extract 0 (min (a.size:Int) 45).toNat),.string (b.extract 0 (min (b.size:Int) 45).toNat)]) ?res rfl ⟨rfl,hB⟩
 case res=>simp [results,Tryz.results8, go_sem,so]
theorem reads_newC (X:World) (x:RP):Reads (X.alloc (.cells #[.int .i64 x.t,.string (cutS x.a),.string (cutS x.b),.string (cutS x.c),.string (cutS x.d)] 32)) (X.heap.size+1) 5 (some ⟨X.heap.size,0,none⟩) 1 (rC (cutP x)) :=
 ⟨rfl,fun _=>⟨_,rfl,Nat.lt_succ_self _,fun j u hu=>by rw [Addr.add_lit,Nat.zero_add];exact Row.cell_at (row_new X _) j (by simpa [rC,cutP] using hu)⟩⟩
theorem own_cap {W:World} {n₀ k c:Nat} {T:TypeId} {p:Option Addr} {xs:List Value} (h:W.ownsRow n₀ T 5 (.slice p k c) k xs):k≤c:=by
 obtain ⟨_,⟨he,hn⟩ | ⟨g,cap,cur,he,_,_,hc,_⟩⟩:=h
 ·omega
 ·simp only [Value.slice.injEq] at he
  omega
def FewOk (a b:ByteArray) (l:List RP) (k:Nat) (w:World) (e:Ending) (w':World):Prop:=∃ p c,(RAt w' p l∧k≤c∧(k=0→p=none)∧∀ g,p=some ⟨g,0,none⟩→w.heap.size≤g)∧e = .returned (.agg #[.string (cutS a),.string (cutS b),.slice p k c])∧Below w.heap.size w w'
theorem lfew {a b:ByteArray} {p:Option Addr} {n c:Nat} {f:Nat→RP} (hn:n≤9223372036854775807) (w:World) (hx:XP w p n f):Calls Tryz.prog 9 #[.agg #[.string a,.string b,.slice p n c]] w (FewOk a b (fewL n f (min n 10)) (min n 10) w):=by
 unfold FewOk
 have hB:Below w.heap.size w w:=Below.refl _ _
 have MS:=fun a b W=>lshort a b W
 unfold ShortOk at MS
 obtain ⟨i0,hi0,hz0,hz1,hz2⟩:=info_parts pointInfo
 have HX:=Lib.hid hx
 obtain ⟨N,hN⟩:∃ N,N=min n 10:=⟨_,rfl⟩
 rw [← hN]
 have HNN:=Lib.hid hN
 clear hN hx
 go_enter Tryz.func9, Tryz.ntmps9
 go_wp2_with fail
 have d0_o:w.heap.size≤w.heap.size+1:=by have:=hB.size;omega
 have sB:=hB.size
 refine world_cut (fun X=>Below w.heap.size w X∧Row X w.heap.size (.cells #[.string a,.string b,.slice p n c] 26)∧Row X (w.heap.size+1) (.cells #[.string ⟨#[]⟩,.string ⟨#[]⟩,.slice none 0 0] 26)) ⟨BW,RWk,RWk⟩ ?_
 clear hB sB
 rintro V1 ⟨hB,rh,ro⟩
 have sh:=RF3 rh
 have so:=RFz3 ro
 refine (MS _ _ _).mono ?_
 rintro e W2 ⟨rfl,h1⟩
 have stp:=St2 hB h1 rh ro;clear hB h1 rh sh ro so
 obtain ⟨hB,rh,ro⟩:=stp
 have sh:=RF3 rh
 have so:=RFz3 ro
 go_wp2_with fail
 have dh_out:w.heap.size<W2.heap.size:=by omega
 have do_out:w.heap.size+1<W2.heap.size:=by omega
 have d0_out:w.heap.size≤W2.heap.size:=by have:=hB.size;omega
 have sB:=hB.size
 refine wp_cut (fun X=>Below w.heap.size w X∧Row X w.heap.size (.cells #[.string a,.string b,.slice p n c] 26)∧Row X (w.heap.size+1) (.cells #[.string ⟨#[]⟩,.string ⟨#[]⟩,.slice none 0 0] 26)∧Row X W2.heap.size (.cells #[.string (cutS a),.string (cutS b),.slice none 0 0] 26)) ⟨BW,RWk,RWk,RWk⟩ ?_
 clear rh
 clear sh
 clear ro
 clear so
 clear hB sB
 rintro V3 ⟨hB,rh,ro,rout⟩
 have sh:=RF3 rh
 have so:=RFz3 ro
 have sout:=RFz3 rout
 obtain ⟨n1,hn1⟩:∃ n,n=V3.heap.size:=⟨_,rfl⟩
 generalize hob:W2.heap.size=ob at rout
 have hob1:ob<n1:=by rw [hn1];exact rout.1
 have hob2:w.heap.size+1<ob:=by omega
 clear hob
 have hnw:w.heap.size+1<n1:=by rw [hn1];exact ro.1
 have hsz:n1≤V3.heap.size:=by omega
 clear sh
 clear so
 clear sout
 clear hn1
 go_loopw [4] (fun v4 wr=>∃ (i:Nat) (v:Value),v4 = .int .i64 (i:Int)∧i≤n∧i≤10∧(i=0→v = .slice none 0 0)∧wr.ownsRow n1 32 5 v i (rCells (fewL n f i))∧n1≤wr.heap.size∧Below w.heap.size w wr∧Row wr ob (.cells #[.string (cutS a),.string (cutS b),v] 26)∧Row wr w.heap.size (.cells #[.string a,.string b,.slice p n c] 26)∧Row wr (w.heap.size+1) (.cells #[.string ⟨#[]⟩,.string ⟨#[]⟩,.slice none 0 0] 26)) (fun v4 _=>(11 - RowKit.intOf v4).toNat)
 case atStart=>exact ⟨0,_,rfl,Nat.zero_le _,by omega,fun _=>rfl,World.ownsRow_nil _ _ _ _,hsz,hB,rout,rh,ro⟩
 case round =>
  clear hB rh ro rout hsz
  obtain ⟨i,v,rfl,hin,hi10,hi0,hown,hsz,hB,rout,rh,ro⟩:=hrel
  obtain ⟨sA,sC,rfl⟩:=own_slice hown
  have HI0:=Lib.hid hi0
  clear hi0
  by_cases hc:i<n∧i<10
  ·obtain ⟨hlt,hlt2⟩:=hc
   obtain ⟨g,o,rfl,hg,hcx⟩:∃ g o,p=some ⟨g,o,none⟩∧g<w.heap.size∧∀ i,i<n→w.cell? ⟨g,o+i * 5,none⟩=some (.int .i64 (f i).t)∧w.cell? ⟨g,o+i * 5+1,none⟩=some (.string (f i).a)∧w.cell? ⟨g,o+i * 5+2,none⟩=some (.string (f i).b)∧w.cell? ⟨g,o+i * 5+3,none⟩=some (.string (f i).c)∧w.cell? ⟨g,o+i * 5+4,none⟩=some (.string (f i).d):=HX.out.resolve_left (by omega)
   obtain ⟨y0,y1,y2,y3,y4⟩:=hcx i hlt
   obtain ⟨x,hx⟩:∃ x,x=f i:=⟨_,rfl⟩
   rw [← hx] at y0 y1 y2 y3 y4
   have cy0:=(hB.cell (p:=⟨g,o+i * 5,none⟩) hg).trans y0
   have cy1:=(hB.cell (p:=⟨g,o+i * 5+1,none⟩) hg).trans y1
   have cy2:=(hB.cell (p:=⟨g,o+i * 5+2,none⟩) hg).trans y2
   have cy3:=(hB.cell (p:=⟨g,o+i * 5+3,none⟩) hg).trans y3
   have cy4:=(hB.cell (p:=⟨g,o+i * 5+4,none⟩) hg).trans y4
   have htk:fewL n f (i+1)=fewL n f i ++ [cutP x]:=by rw [hx];rfl
   have HTK:=Lib.hid htk
   clear htk hx hcx y0 y1 y2 y3 y4
   have hiI:(i:Int)<(n:Int):=by omega
   have hi10I:(i:Int)<10:=by omega
   have sh:=RF3 rh
   have so:=RFz3 ro
   have sout:=RFz3 rout
   have hq0:∀ g2,(Value.slice sA i sC).ownBlock=some g2→g2<wr.heap.size:=fun g2 h=>(World.ownsRow.lt hown g2 h).2
   go_wp2_with fail
   have dh_q:w.heap.size<wr.heap.size:=by omega
   have do_q:w.heap.size+1<wr.heap.size:=by omega
   have dout_q:ob<wr.heap.size:=by omega
   have d0_q:w.heap.size≤wr.heap.size:=by have:=hB.size;omega
   have sB:=hB.size
   refine world_cut (fun X=>Below w.heap.size w X∧Row X w.heap.size (.cells #[.string a,.string b,.slice (some ⟨g,o,none⟩) n c] 26)∧Row X (w.heap.size+1) (.cells #[.string ⟨#[]⟩,.string ⟨#[]⟩,.slice none 0 0] 26)∧Row X ob (.cells #[.string (cutS a),.string (cutS b),.slice sA i sC] 26)∧Row X wr.heap.size (.cells #[.int .i64 x.t,.string x.a,.string x.b,.string x.c,.string x.d] 32)∧X.ownsRow n1 32 5 (.slice sA i sC) i (rCells (fewL n f i))∧n1≤X.heap.size) ⟨BW,RWk,RWk,RWk,RWk,OWM,(by first | omega | (simp;omega))⟩ ?_
   clear rh
   clear sh
   clear ro
   clear so
   clear rout
   clear sout
   clear hB sB hown hsz
   rintro V4 ⟨hB,rh,ro,rout,rq,hown,hsz⟩
   have sh:=RF3 rh
   have so:=RFz3 ro
   have sout:=RFz3 rout
   have sq:=RFz5 rq
   refine (MS _ _ _).mono ?_
   rintro e W5 ⟨rfl,h1⟩
   replace hown:=own_later hown h1
   replace hsz:=le_below hsz h1
   have stp:=St4 hB h1 rh ro rout rq;clear hB h1 rh sh ro so rout sout rq sq
   obtain ⟨hB,rh,ro,rout,rq⟩:=stp
   have sh:=RF3 rh
   have so:=RFz3 ro
   have sout:=RFz3 rout
   have sq:=RFz5 rq
   clear cy0 cy1 cy2 cy3 cy4
   go_wp2_with fail
   have sB:=hB.size
   refine world_cut (fun X=>Below w.heap.size w X∧Row X w.heap.size (.cells #[.string a,.string b,.slice (some ⟨g,o,none⟩) n c] 26)∧Row X (w.heap.size+1) (.cells #[.string ⟨#[]⟩,.string ⟨#[]⟩,.slice none 0 0] 26)∧Row X ob (.cells #[.string (cutS a),.string (cutS b),.slice sA i sC] 26)∧Row X wr.heap.size (.cells #[.int .i64 x.t,.string (cutS x.a),.string (cutS x.b),.string x.c,.string x.d] 32)∧X.ownsRow n1 32 5 (.slice sA i sC) i (rCells (fewL n f i))∧n1≤X.heap.size) ⟨BW,RWk,RWk,RWk,RWk,OWM,(by first | omega | (simp;omega))⟩ ?_
   clear rh
   clear sh
   clear ro
   clear so
   clear rout
   clear sout
   clear rq
   clear sq
   clear hB sB hown hsz
   rintro V6 ⟨hB,rh,ro,rout,rq,hown,hsz⟩
   have sh:=RF3 rh
   have so:=RFz3 ro
   have sout:=RFz3 rout
   have sq:=RFz5 rq
   refine (MS _ _ _).mono ?_
   rintro e W7 ⟨rfl,h1⟩
   replace hown:=own_later hown h1
   replace hsz:=le_below hsz h1
   have stp:=St4 hB h1 rh ro rout rq;clear hB h1 rh sh ro so rout sout rq sq
   obtain ⟨hB,rh,ro,rout,rq⟩:=stp
   have sh:=RF3 rh
   have so:=RFz3 ro
   have sout:=RFz3 rout
   have sq:=RFz5 rq
   go_upto_region 8 with fail
   have sB:=hB.size
   refine wp_cut (fun X=>Below w.heap.size w X∧Row X w.heap.size (.cells #[.string a,.string b,.slice (some ⟨g,o,none⟩) n c] 26)∧Row X (w.heap.size+1) (.cells #[.string ⟨#[]⟩,.string ⟨#[]⟩,.slice none 0 0] 26)∧Row X ob (.cells #[.string (cutS a),.string (cutS b),.slice sA i sC] 26)∧Row X wr.heap.size (.cells #[.int .i64 x.t,.string (cutS x.a),.string (cutS x.b),.string (cutS x.c),.string (cutS x.d)] 32)∧X.ownsRow n1 32 5 (.slice sA i sC) i (rCells (fewL n f i))∧n1≤X.heap.size) ⟨BW,RWk,RWk,RWk,RWk,OWM,(by first | omega | (simp;omega))⟩ ?_
   clear rh
   clear sh
   clear ro
   clear so
   clear rout
   clear sout
   clear rq
   clear sq
   clear hB sB hown hsz
   rintro V8 ⟨hB,rh,ro,rout,rq,hown,hsz⟩
   have sh:=RF3 rh
   have so:=RFz3 ro
   have sout:=RFz3 rout
   have sq:=RFz5 rq
   have rdn:=reads_newC V8 x
   go_wp2_with (at_builtin;refine wpList_append_reads _ rfl (.tmp 39) (.tmp 41) 24 rfl n1 32 i0 (.agg #[.int .i64 0,.string ⟨#[]⟩,.string ⟨#[]⟩,.string ⟨#[]⟩,.string ⟨#[]⟩]) 5 72 Tryz.underlying24 hi0 hz0 hz1 hz2 rfl (by decide) (.slice sA i sC) i (rCells (fewL n f i)) rfl (hown.alloc _) (V8.heap.size+1) (some ⟨V8.heap.size,0,none⟩) 1 1 (rC (cutP x)) rfl rdn (rC_one _) (by unfold maxLen;omega) (by omega) (by simp;omega) ?_;intro v' W9 hown' hgrow';obtain ⟨sB,sD,rfl⟩:=own_slice hown';replace rh:=own_row_ne (hown.alloc _) hgrow' (rh.alloc _) (by omega);replace ro:=own_row_ne (hown.alloc _) hgrow' (ro.alloc _) (by omega);replace rout:=own_row_ne (hown.alloc _) hgrow' (rout.alloc _) (by omega);replace hB:=Below.grown (hB.alloc (by have:=hB.size;omega) _) hgrow' (by have:=hB.size;first | omega | (simp;omega)) (fun q hq=>by have:=(World.ownsRow.lt hown q hq).1;omega);replace hsz:n1≤W9.heap.size:=Nat.le_trans (by simp;omega) hgrow'.size;have hown2:W9.ownsRow n1 32 5 (.slice sB (i+1) sD) (i+1) (rCells (fewL n f (i+1))):=(by rw [HTK.out,rCells_app,rCells_cons,rCells_nil,List.append_nil];exact hown');clear hown hown' hgrow' rdn rq;(try clear sh so sout sq);have sout:=RFz3 rout)
   go_roundw
   case rel=>exact ⟨i+1,.slice sB (i+1) sD,by go_num,by omega,by omega,(fun h=>absurd h (by omega)),OW,by simp;exact hsz,BW,RWk,RWk,RWk⟩
   case measure=>simp [RowKit.intOf];omega
  ·have hiN:i=N:=by have:=HNN.out;omega
   subst hiN
   have sh:=RF3 rh
   have so:=RFz3 ro
   have sout:=RFz3 rout
   go_upto_region 3 with fail
   go_cut [18] (fun s18 W=>s18 = .bool false∧Below w.heap.size w W∧Row W w.heap.size (.cells #[.string a,.string b,.slice p n c] 26)∧Row W (w.heap.size+1) (.cells #[.string ⟨#[]⟩,.string ⟨#[]⟩,.slice none 0 0] 26)∧Row W ob (.cells #[.string (cutS a),.string (cutS b),.slice sA i sC] 26)∧W.ownsRow n1 32 5 (.slice sA i sC) i (rCells (fewL n f i)))
   case first =>
    rcases Nat.lt_or_ge i n with h1 | h1
    ·have h2:(i:Int)<(n:Int):=by omega
     have h3:¬ (i<10):=by omega
     go_wp2
     go_meet
     case rel=>exact ⟨(by rw [decide_eq_false (show ¬ ((i:Int)<10) by omega)]),BW,RWk,RWk,RWk,OW⟩
    ·have h2:¬ (i<n):=by omega
     go_wp2
     go_meet
     case rel=>exact ⟨(by first | rfl | rw [decide_eq_false h2]),BW,RWk,RWk,RWk,OW⟩
   case rest =>
    clear hB rh ro rout hown
    clear sh
    clear so
    clear sout
    obtain ⟨rfl,hB,rh,ro,rout,hown⟩:=hcut
    have sB:=hB.size
    clear sB
    have sh:=RF3 rh
    have so:=RFz3 ro
    have sout:=RFz3 rout
    go_wp2_with fail
    have sB:=hB.size
    refine post_cut (fun X=>Below w.heap.size w X∧Row X (w.heap.size+1) (.cells #[.string (cutS a),.string (cutS b),.slice sA i sC] 26)∧X.ownsRow n1 32 5 (.slice sA i sC) i (rCells (fewL n f i))) ⟨BW,RWk,OW⟩ ?_
    clear rh
    clear sh
    clear ro
    clear so
    clear rout
    clear sout
    clear hB sB hown
    rintro V5 ⟨hB,ro,hown⟩
    have so:=RFz3 ro
    refine bodyPost_ret (v := .agg #[.string (cutS a),.string (cutS b),.slice sA i sC]) ?res rfl ⟨sA,sC,⟨own_ratR hown (fewL_length n f i),own_cap hown,fun h=>by have h9:=HI0.out h;simp only [Value.slice.injEq] at h9;exact h9.1,fun g2 h9=>by have:=(World.ownsRow.lt hown g2 (by rw [h9];rfl)).1;omega⟩,rfl,hB⟩
    case res=>simp [results,Tryz.results9, go_sem,so]
end Go.Proofs.YtnokpldomlmamaaGreatDoor
namespace Go.Proofs.YtnokpldomlmamaaGreatDoor
open Go Go.RowKit Go.Lib Go.Shelf
attribute [local go_sem] normalQ
theorem r12sameR {s1 s2:ByteArray} {l:List RP} (p q:Option Addr) (m c d:Nat) (hm:l.length=m) (hm1:m≤1000) (w:World) (hp:RAt w p l) (hq:RAt w q l) :
  Calls Tryz.prog 15 #[.agg #[.string s1,.string s2,.slice p m c],.agg #[.string s1,.string s2,.slice q m d]] w (BoolOk true w):=by
 have hB:Below w.heap.size w w:=Below.refl _ _
 have HP:=Lib.hid hp
 have HQ:=Lib.hid hq
 have HM:=Lib.hid hm
 clear hp hq hm
 go_enter Tryz.func15, Tryz.ntmps15
 go_wp2_with fail
 have sB:=hB.size
 refine wp_cut (fun X=>Below w.heap.size w X∧Row X w.heap.size (.cells #[.string s1,.string s2,.slice p m c] 26)∧Row X (w.heap.size+1) (.cells #[.string s1,.string s2,.slice q m d] 26)) ⟨BW,RWk,RWk⟩ ?_
 clear hB sB
 rintro V1 ⟨hB,ra,rb⟩
 have sa:=RF3 ra
 have sb:=RF3 rb
 go_loopw [5] (fun v5 wr=>∃ i:Nat,v5 = .int .i64 (i:Int)∧i≤m∧Below w.heap.size w wr∧Row wr w.heap.size (.cells #[.string s1,.string s2,.slice p m c] 26)∧Row wr (w.heap.size+1) (.cells #[.string s1,.string s2,.slice q m d] 26)) (fun v5 _=>(m - RowKit.intOf v5).toNat)
 case atStart=>exact ⟨0,rfl,Nat.zero_le _,hB,ra,rb⟩
 case round =>
  clear sa
  clear sb
  clear hB ra rb
  obtain ⟨i,rfl,him,hB,ra,rb⟩:=hrel
  rcases Nat.lt_or_ge i m with hlt | hge
  ·have hlt':i<l.length:=by rw [HM.out];exact hlt
   obtain ⟨u,hu⟩:∃ u,u=rpD l i:=⟨_,rfl⟩
   obtain ⟨g,cur,hpg,rg,g0,g1,g2,g3,g4⟩:=RAt.at (RAt.below HP.out hB) hlt'
   obtain ⟨k,cuk,hqk,rk,k0,k1,k2,k3,k4⟩:=RAt.at (RAt.below HQ.out hB) hlt'
   rw [← hu] at g0 g1 g2 g3 g4 k0 k1 k2 k3 k4
   subst hpg hqk
   clear hu
   have hi:(i:Int)<(m:Int):=by omega
   have sa:=RF3 ra
   have sb:=RF3 rb
   have Fg:∀ X,Row X g (.cells cur 32)→(g<X.heap.size∧X.cell? ⟨g,i * 5,none⟩=some (.int .i64 u.t)∧X.cell? ⟨g,i * 5+1,none⟩=some (.string u.a)∧X.cell? ⟨g,i * 5+2,none⟩=some (.string u.b)∧X.cell? ⟨g,i * 5+3,none⟩=some (.string u.c)∧X.cell? ⟨g,i * 5+4,none⟩=some (.string u.d)):=fun X h=>⟨h.1,Row.cell_at h _ g0,Row.cell_at h _ g1,Row.cell_at h _ g2,Row.cell_at h _ g3,Row.cell_at h _ g4⟩
   have sg:=Fg _ rg
   have Fk:∀ X,Row X k (.cells cuk 32)→(k<X.heap.size∧X.cell? ⟨k,i * 5,none⟩=some (.int .i64 u.t)∧X.cell? ⟨k,i * 5+1,none⟩=some (.string u.a)∧X.cell? ⟨k,i * 5+2,none⟩=some (.string u.b)∧X.cell? ⟨k,i * 5+3,none⟩=some (.string u.c)∧X.cell? ⟨k,i * 5+4,none⟩=some (.string u.d)):=fun X h=>⟨h.1,Row.cell_at h _ k0,Row.cell_at h _ k1,Row.cell_at h _ k2,Row.cell_at h _ k3,Row.cell_at h _ k4⟩
   have sk:=Fk _ rk
   go_wp2_with fail
   refine wp_region_vals [.pointer (some ⟨w.heap.size,2,none⟩),.slice (some ⟨g,0,none⟩) m c,.int .i64 (i:Int),.pointer (some ⟨g,i * 5,none⟩),.agg #[.int .i64 u.t,.string u.a,.string u.b,.string u.c,.string u.d],.pointer (some ⟨w.heap.size+1,2,none⟩),.slice (some ⟨k,0,none⟩) m d,.int .i64 (i:Int),.pointer (some ⟨k,i * 5,none⟩),.agg #[.int .i64 u.t,.string u.a,.string u.b,.string u.c,.string u.d],.bool false] (by kernel_rfl) (by kernel_rfl) rfl (allVals.cons qv0 (allVals.cons (qv1 fun X h=>RF3 (Row.below ra h)) (allVals.cons qv0 (allVals.cons (qvf hi) (allVals.cons (qv1 fun X h=>Fg X (Row.below rg h)) (allVals.cons qv0 (allVals.cons (qv1 fun X h=>RF3 (Row.below rb h)) (allVals.cons qv0 (allVals.cons (qvf hi) (allVals.cons (qv1 fun X h=>Fk X (Row.below rk h)) (allVals.cons (qvf hi) trivial))))))))))) ?_
   rintro W h1
   have stp:=St4 hB h1 ra rb rg rk;clear hB h1 ra sa rb sb rg sg rk sk
   obtain ⟨hB,ra,rb,rg,rk⟩:=stp
   have sa:=RF3 ra
   have sb:=RF3 rb
   have sg:=Fg _ rg
   have sk:=Fk _ rk
   simp only [setVals,List.setIfInBounds_toArray,List.set_cons_succ,List.set_cons_zero]
   go_wp2
   go_roundw
   case rel=>exact ⟨i+1,by go_num,by omega,BW,RWh,RWh⟩
   case measure=>simp [RowKit.intOf];omega
  ·obtain rfl:m=i:=by omega
   have sa:=RF3 ra
   have sb:=RF3 rb
   go_wp2
   go_ret
   exact ⟨rfl,hB⟩
end Go.Proofs.YtnokpldomlmamaaGreatDoor
