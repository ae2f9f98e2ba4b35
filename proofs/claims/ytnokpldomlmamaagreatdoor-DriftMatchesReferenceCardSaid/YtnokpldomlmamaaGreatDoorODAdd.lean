/-
 drift.Add: a valid history, with a further valid point.
-/
import Derived.Deep.RegionHeld3
import Derived.Test.YtnokpldomlmamaaGreatDoorODCons
set_option linter.unusedSimpArgs false
set_option linter.unusedVariables false
set_option maxRecDepth 100000
set_option maxHeartbeats 16000000
namespace Go.Proofs.YtnokpldomlmamaaGreatDoor
open Go Go.RowKit Go.Lib Go.Shelf
theorem own_later {w w':World} {base:Nat} {e:TypeId} {size:Nat} {v:Value} {n:Nat} {xs:List Value} (h:w.ownsRow base e size v n xs) (hB:Below w.heap.size w w'):w'.ownsRow base e size v n xs :=
 ⟨h.1,h.2.elim .inl fun ⟨g,cap,cur,e,h0,hg,r⟩ => .inr ⟨g,cap,cur,e,h0,(hB.block g (Array.getElem?_eq_some_iff.1 hg).1).trans hg,r⟩⟩
theorem own_set3 {n₀:Nat} {T T':TypeId} {k n b:Nat} {v u0 u1 u2:Value} {xs:List Value} {vs:Array Value} {A:World} (h:A.ownsRow n₀ T k v n xs) (r:Row A b (.cells vs T')) (hne:T'≠T) :
  (((A.setCell ⟨b,0,none⟩ u0).setCell ⟨b,1,none⟩ u1).setCell ⟨b,2,none⟩ u2).ownsRow n₀ T k v n xs :=
 own_other (own_other (own_other h r hne _ _) (r.set_same rfl) hne _ _) ((r.set_same rfl).set_same rfl) hne _ _
theorem with_fact {p q:Prop} (h:p) (k:p→q):q:=k h
theorem bstep {a X W:World} (h1:Below X.heap.size X W) (hX:Below a.heap.size a X):Below a.heap.size a W:=hX.trans (h1.mono hX.size)
theorem own_row_ne {n₀ n b:Nat} {v:Value} {xs:List Value} {T T':TypeId} {k:Nat} {vs:Array Value} {A B:World} (h:A.ownsRow n₀ T k v n xs) (hg:A.grownBy B v.ownBlock) (r:Row A b (.cells vs T')) (hb:b<n₀):Row B b (.cells vs T') :=
 ⟨Nat.lt_of_lt_of_le r.1 hg.size,(hg.block b r.1 fun e=>by have:=h.lt b e.symm;omega).trans r.2⟩
/-- What of a call of Add is known. -/
def AddOk (r:Rat) (l:List Pt) (w:World) (e:Ending) (w':World):Prop:=∃ p c,(w'.ownsRow w.heap.size 32 5 (.slice p l.length c) l.length (pCells l))∧e = .returned (.tuple #[.agg #[.string (S r.num),.string (S (r.den:Int)),.slice p l.length c],.int .i64 0])∧Below w.heap.size w w'
theorem dadd {r:Rat} {l:List Pt} {a:Pt} (ho:Hist.Ok ⟨r,l⟩) (hoi:Hist.Ok ⟨r,ins l a⟩) (p:Option Addr) (m c:Nat) (hm:l.length=m) (w:World) (hp:PAt w p l) (he:Env w) :
  Calls Tryz.prog 18 #[.agg #[.string (S r.num),.string (S (r.den:Int)),.slice p m c],.agg #[.int .i64 (a.t:Int),.string (S a.iv.lo.num),.string (S (a.iv.lo.den:Int)),.string (S a.iv.hi.num),.string (S (a.iv.hi.den:Int))]] w (AddOk r (ins l a) w):=by
 have hB:Below w.heap.size w w:=Below.refl _ _
 have MV:=fun W (hp:PAt W p l) (H:Env W)=>dvalid ho p m c hm W hp H
 have hfew:=ho.few
 simp only [hm] at hfew
 have hs:=ho.sorted
 have HP:=Lib.hid hp
 have hk:=upTo_le l (a.t:Int)
 rw [hm] at hk
 have MK:=fun W bh bt rh rt (hp:PAt W p l)=>dadd1_find (r:=r) (c:=c) (a:=a) hm (by omega) hs bh bt W rh rt hp
 have MC:=fun W (hp:PAt W p l)=>dclone2 p m c hm (by omega) W hp
 have MI:=fun base vb q d W (hb:base≤W.heap.size) (hown:W.ownsRow base 32 5 (.slice q m d) m (pCells l)) (hv:Row W vb (.cells #[.int .i64 (a.t:Int),.string (S a.iv.lo.num),.string (S (a.iv.lo.den:Int)),.string (S a.iv.hi.num),.string (S (a.iv.hi.den:Int))] 32)) (hne:(Value.slice q m d).ownBlock≠some vb)=>dinsert base (upTo l (a.t:Int)) m vb q d (pCells l) (pC a) (by omega) hk W hb hown hv rfl hne (pCells_one l) (by intro u hu;exact pCells_one [a] u (by simpa [pCells] using hu))
 have hins:(pCells l).take (upTo l (a.t:Int) * 5) ++ pC a ++ (pCells l).drop (upTo l (a.t:Int) * 5)=pCells (ins l a):=by unfold ins;rw [pCells_app,pCells_cons,pCells_take,pCells_drop,List.append_assoc]
 rw [hins] at MI
 have hlen:(ins l a).length=m+1:=by rw [ins_length,hm]
 have MV2:=fun q d W (hp:PAt W q (ins l a)) (H:Env W)=>dvalid hoi q (m+1) d hlen W hp H
 unfold BoolOk HV at MV MV2
 unfold AddOk
 rw [hlen]
 simp only at MV MV2
 have HIL:=Lib.hid hlen
 generalize upTo l (a.t:Int)=k at *
 generalize ins l a=l2 at *
 have hki:(k:Int)≤(m:Int):=by omega
 have hk0:(0:Int)≤(k:Int):=by omega
 clear hins ho hoi hp hs hm hfew hlen
 go_enter Tryz.func18, Tryz.ntmps18
 go_wp2_with fail
 have d0_o:w.heap.size≤w.heap.size+1+1:=by have:=hB.size;omega
 have sB:=hB.size
 refine world_cut (fun X=>Below w.heap.size w X∧Row X w.heap.size (.cells #[.string (S r.num),.string (S (r.den:Int)),.slice p m c] 26)∧Row X (w.heap.size+1) (.cells #[.int .i64 (a.t:Int),.string (S a.iv.lo.num),.string (S (a.iv.lo.den:Int)),.string (S a.iv.hi.num),.string (S (a.iv.hi.den:Int))] 32)∧Row X (w.heap.size+1+1) (.cells #[.string ⟨#[]⟩,.string ⟨#[]⟩,.slice none 0 0] 26)) ⟨BW,RWh,RWh,RWh⟩ ?_
 clear hB sB
 rintro V1 ⟨hB,rh,rq,ro⟩
 have sh:=RF3 rh
 have sq:=RF5 rq
 have so:=RFz3 ro
 refine (MV _ (HP.out.below hB) (he.below hB)).mono ?_
 rintro e W2 ⟨rfl,h1⟩
 clear sh
 clear sq
 clear so
 replace hB:=hB.trans (h1.mono hB.size)
 replace rh:=Row.below rh h1
 replace rq:=Row.below rq h1
 replace ro:=Row.below ro h1
 clear h1
 have sh:=RF3 rh
 have sq:=RF5 rq
 have so:=RFz3 ro
 go_wp2_with fail
 refine (MK _ _ _ rh rq (HP.out.below hB)).mono ?_
 rintro e W3 ⟨rfl,h1⟩
 clear sh
 clear sq
 clear so
 replace hB:=hB.trans (h1.mono hB.size)
 replace rh:=Row.below rh h1
 replace rq:=Row.below rq h1
 replace ro:=Row.below ro h1
 clear h1
 have sh:=RF3 rh
 have sq:=RF5 rq
 have so:=RFz3 ro
 go_upto_region 4 with fail
 have vo:=ro.1
 obtain ⟨V,hV⟩:∃ x:World,x=W3:=⟨_,rfl⟩
 subst hV
 refine Code.wp_mono (Q:=fun ex ac wx=>ex = .normal∧∃ (bo c2:Nat) (p2:Option Addr) (u17 u18 u19 u20 u21 u22 u23 u24 u25 u26:Value),ac={ tmps:=#[.agg #[.string (S r.num),.string (S (r.den:Int)),.slice p m c],.agg #[.int .i64 (a.t:Int),.string (S a.iv.lo.num),.string (S (a.iv.lo.den:Int)),.string (S a.iv.hi.num),.string (S (a.iv.hi.den:Int))],.pointer (some ⟨w.heap.size,0,none⟩),.pointer (some ⟨w.heap.size+1,0,none⟩),.pointer (some ⟨w.heap.size+1+1,0,none⟩),.int .i64 0,.int .i64 (k:Int),.pointer (some ⟨bo,0,none⟩),.agg #[.string (S r.num),.string (S (r.den:Int)),.slice p m c],.bool true,.bool false,undef,.pointer (some ⟨w.heap.size,2,none⟩),.slice p m c,.int .i64 (m:Int),.func (.func 65) #[] #[.pointer (some ⟨w.heap.size,0,none⟩),.pointer (some ⟨w.heap.size+1,0,none⟩)],.int .i64 (k:Int),u17,u18,u19,u20,u21,u22,u23,u24,u25,u26,undef,undef,undef,undef,undef],defers:=[] }∧Below w.heap.size w wx∧Row wx (w.heap.size+1+1) (.cells #[.string ⟨#[]⟩,.string ⟨#[]⟩,.slice none 0 0] 26)∧Row wx bo (.cells #[.string (S r.num),.string (S (r.den:Int)),.slice p2 (m+1) c2] 26)∧bo≠w.heap.size+1+1∧w.heap.size≤bo∧wx.ownsRow V.heap.size 32 5 (.slice p2 (m+1) c2) (m+1) (pCells l2)) ?rest ?first
 case first =>
  have KK:∀ X,Row X (w.heap.size) (.cells #[.string (S r.num),.string (S (r.den:Int)),.slice p m c] 26)→Row X (w.heap.size+1) (.cells #[.int .i64 (a.t:Int),.string (S a.iv.lo.num),.string (S (a.iv.lo.den:Int)),.string (S a.iv.hi.num),.string (S (a.iv.hi.den:Int))] 32)→(X.cell? ⟨w.heap.size,0,none⟩=some (.string (S r.num))∧X.cell? ⟨w.heap.size,1,none⟩=some (.string (S (r.den:Int)))∧X.cell? ⟨w.heap.size,2,none⟩=some (.slice p m c)∧X.cell? ⟨w.heap.size+1,0,none⟩=some (.int .i64 (a.t:Int))∧X.cell? ⟨w.heap.size+1,1,none⟩=some (.string (S a.iv.lo.num))∧X.cell? ⟨w.heap.size+1,2,none⟩=some (.string (S (a.iv.lo.den:Int)))∧X.cell? ⟨w.heap.size+1,3,none⟩=some (.string (S a.iv.hi.num))∧X.cell? ⟨w.heap.size+1,4,none⟩=some (.string (S (a.iv.hi.den:Int)))):=fun X h1 h2=>⟨Row.cell_at h1 0 rfl,Row.cell_at h1 1 rfl,Row.cell_at h1 2 rfl,Row.cell_at h2 0 rfl,Row.cell_at h2 1 rfl,Row.cell_at h2 2 rfl,Row.cell_at h2 3 rfl,Row.cell_at h2 4 rfl⟩
  clear sh
  clear sq
  clear so
  have tok1:True:=trivial
  go_region_held3 (fun X=>X.cell? ⟨w.heap.size,0,none⟩=some (.string (S r.num))∧X.cell? ⟨w.heap.size,1,none⟩=some (.string (S (r.den:Int)))∧X.cell? ⟨w.heap.size,2,none⟩=some (.slice p m c)∧X.cell? ⟨w.heap.size+1,0,none⟩=some (.int .i64 (a.t:Int))∧X.cell? ⟨w.heap.size+1,1,none⟩=some (.string (S a.iv.lo.num))∧X.cell? ⟨w.heap.size+1,2,none⟩=some (.string (S (a.iv.lo.den:Int)))∧X.cell? ⟨w.heap.size+1,3,none⟩=some (.string (S a.iv.hi.num))∧X.cell? ⟨w.heap.size+1,4,none⟩=some (.string (S (a.iv.hi.den:Int)))) (first | exact KK _ RWh RWh) (first
    | (go_at_call 64; have _t:=tok1;refine Calls.mono (MC _ (HP.out.below BW)) ?_;rintro e W1 ⟨p1,c1,hown,rfl,h1⟩;have hlt1:=hown.lt;(first | (refine with_fact (p:=Row W1 (V.heap.size) (.cells #[.string ⟨#[]⟩,.string ⟨#[]⟩,.slice none 0 0] 26)) ?_ ?_;(focus (refine Row.below ?_ h1;(repeat (first | (with_reducible assumption) | (with_reducible exact row_new' (by first | omega | (simp;done) | (simp;omega))) | (with_reducible refine Row.drew ?_) | (with_reducible refine Row.drewN ?_ _) | (with_reducible refine Row.alloc ?_ _) | (with_reducible refine Row.set_other ?_ _ (by first | omega | (simp;done) | (simp;omega)))));done));intro rz) | (refine with_fact (p:=Row W1 (V.heap.size+1) (.cells #[.string ⟨#[]⟩,.string ⟨#[]⟩,.slice none 0 0] 26)) ?_ ?_;(focus (refine Row.below ?_ h1;(repeat (first | (with_reducible assumption) | (with_reducible exact row_new' (by first | omega | (simp;done) | (simp;omega))) | (with_reducible refine Row.drew ?_) | (with_reducible refine Row.drewN ?_ _) | (with_reducible refine Row.alloc ?_ _) | (with_reducible refine Row.set_other ?_ _ (by first | omega | (simp;done) | (simp;omega)))));done));intro rz) | (refine with_fact (p:=Row W1 (V.heap.size+1+1) (.cells #[.string ⟨#[]⟩,.string ⟨#[]⟩,.slice none 0 0] 26)) ?_ ?_;(focus (refine Row.below ?_ h1;(repeat (first | (with_reducible assumption) | (with_reducible exact row_new' (by first | omega | (simp;done) | (simp;omega))) | (with_reducible refine Row.drew ?_) | (with_reducible refine Row.drewN ?_ _) | (with_reducible refine Row.alloc ?_ _) | (with_reducible refine Row.set_other ?_ _ (by first | omega | (simp;done) | (simp;omega)))));done));intro rz) | skip);(first | (refine with_fact (p:=Row W1 (V.heap.size) (.cells #[.int .i64 (a.t:Int),.string (S a.iv.lo.num),.string (S (a.iv.lo.den:Int)),.string (S a.iv.hi.num),.string (S (a.iv.hi.den:Int))] 32)) ?_ ?_;(focus (refine Row.below ?_ h1;(repeat (first | (with_reducible assumption) | (with_reducible exact row_new' (by first | omega | (simp;done) | (simp;omega))) | (with_reducible refine Row.drew ?_) | (with_reducible refine Row.drewN ?_ _) | (with_reducible refine Row.alloc ?_ _) | (with_reducible refine Row.set_other ?_ _ (by first | omega | (simp;done) | (simp;omega)))));done));intro rv) | (refine with_fact (p:=Row W1 (V.heap.size+1) (.cells #[.int .i64 (a.t:Int),.string (S a.iv.lo.num),.string (S (a.iv.lo.den:Int)),.string (S a.iv.hi.num),.string (S (a.iv.hi.den:Int))] 32)) ?_ ?_;(focus (refine Row.below ?_ h1;(repeat (first | (with_reducible assumption) | (with_reducible exact row_new' (by first | omega | (simp;done) | (simp;omega))) | (with_reducible refine Row.drew ?_) | (with_reducible refine Row.drewN ?_ _) | (with_reducible refine Row.alloc ?_ _) | (with_reducible refine Row.set_other ?_ _ (by first | omega | (simp;done) | (simp;omega)))));done));intro rv) | (refine with_fact (p:=Row W1 (V.heap.size+1+1) (.cells #[.int .i64 (a.t:Int),.string (S a.iv.lo.num),.string (S (a.iv.lo.den:Int)),.string (S a.iv.hi.num),.string (S (a.iv.hi.den:Int))] 32)) ?_ ?_;(focus (refine Row.below ?_ h1;(repeat (first | (with_reducible assumption) | (with_reducible exact row_new' (by first | omega | (simp;done) | (simp;omega))) | (with_reducible refine Row.drew ?_) | (with_reducible refine Row.drewN ?_ _) | (with_reducible refine Row.alloc ?_ _) | (with_reducible refine Row.set_other ?_ _ (by first | omega | (simp;done) | (simp;omega)))));done));intro rv) | skip);replace rh:Row W1 (w.heap.size) (.cells #[.string (S r.num),.string (S (r.den:Int)),.slice p m c] 26):=Row.below RWh h1;replace rq:Row W1 (w.heap.size+1) (.cells #[.int .i64 (a.t:Int),.string (S a.iv.lo.num),.string (S (a.iv.lo.den:Int)),.string (S a.iv.hi.num),.string (S (a.iv.hi.den:Int))] 32):=Row.below RWh h1;replace ro:Row W1 (w.heap.size+1+1) (.cells #[.string ⟨#[]⟩,.string ⟨#[]⟩,.slice none 0 0] 26):=Row.below RWh h1;replace hown:=own_at hown (base':=V.heap.size) (by first | omega | (simp;done) | (simp;omega));replace hB:Below w.heap.size w W1:=bstep h1 BW;have w1o:=ro.1;have hsz1:V.heap.size≤W1.heap.size:=Nat.le_trans (by first | exact Nat.le_refl _ | (simp;done) | (simp;omega)) h1.size;(try simp only [World.size_alloc] at hlt1);  clear _t tok1;have tok2:True:=trivial)
    | (go_at_call 66; have _t:=tok2;refine Calls.mono (MI V.heap.size _ _ _ _ ?hb ?hw ?hv ?hn) ?_;(case hb=>first | omega | (simp;omega));(case hw=>exact OW);(case hv=>exact RWh);(case hn=>intro e;have:=hlt1 _ e;first | omega | (simp at *;omega));rintro e W2 ⟨p2,c2,rfl,hown2,hg2⟩;(first | (refine with_fact (p:=Row W2 (V.heap.size) (.cells #[.string ⟨#[]⟩,.string ⟨#[]⟩,.slice none 0 0] 26)) ?_ ?_;(focus (refine row_append (n₀:=V.heap.size) (T := 32) (k:=5) (n:=m) (v := .slice p1 m c1) (xs:=pCells l) ?_ hg2 ?_ (by decide);(focus ((repeat (first | (with_reducible assumption) | (with_reducible refine own_dr ?_) | (with_reducible refine own_drN ?_ _) | (with_reducible refine World.ownsRow.alloc ?_ _)));done));(repeat (first | (with_reducible assumption) | (with_reducible exact row_new' (by first | omega | (simp;done) | (simp;omega))) | (with_reducible refine Row.drew ?_) | (with_reducible refine Row.drewN ?_ _) | (with_reducible refine Row.alloc ?_ _) | (with_reducible refine Row.set_other ?_ _ (by first | omega | (simp;done) | (simp;omega)))));done));intro rz2;have z0:=Row.cell_at rz2 0 rfl;have z1:=Row.cell_at rz2 1 rfl;have z2:=Row.cell_at rz2 2 rfl;have zf0:=frozen_of_row _ _ 0 _ _ rz2.2;have zf1:=frozen_of_row _ _ 1 _ _ rz2.2;have zf2:=frozen_of_row _ _ 2 _ _ rz2.2;have zs:=rz2.1) | (refine with_fact (p:=Row W2 (V.heap.size+1) (.cells #[.string ⟨#[]⟩,.string ⟨#[]⟩,.slice none 0 0] 26)) ?_ ?_;(focus (refine row_append (n₀:=V.heap.size) (T := 32) (k:=5) (n:=m) (v := .slice p1 m c1) (xs:=pCells l) ?_ hg2 ?_ (by decide);(focus ((repeat (first | (with_reducible assumption) | (with_reducible refine own_dr ?_) | (with_reducible refine own_drN ?_ _) | (with_reducible refine World.ownsRow.alloc ?_ _)));done));(repeat (first | (with_reducible assumption) | (with_reducible exact row_new' (by first | omega | (simp;done) | (simp;omega))) | (with_reducible refine Row.drew ?_) | (with_reducible refine Row.drewN ?_ _) | (with_reducible refine Row.alloc ?_ _) | (with_reducible refine Row.set_other ?_ _ (by first | omega | (simp;done) | (simp;omega)))));done));intro rz2;have z0:=Row.cell_at rz2 0 rfl;have z1:=Row.cell_at rz2 1 rfl;have z2:=Row.cell_at rz2 2 rfl;have zf0:=frozen_of_row _ _ 0 _ _ rz2.2;have zf1:=frozen_of_row _ _ 1 _ _ rz2.2;have zf2:=frozen_of_row _ _ 2 _ _ rz2.2;have zs:=rz2.1) | (refine with_fact (p:=Row W2 (V.heap.size+1+1) (.cells #[.string ⟨#[]⟩,.string ⟨#[]⟩,.slice none 0 0] 26)) ?_ ?_;(focus (refine row_append (n₀:=V.heap.size) (T := 32) (k:=5) (n:=m) (v := .slice p1 m c1) (xs:=pCells l) ?_ hg2 ?_ (by decide);(focus ((repeat (first | (with_reducible assumption) | (with_reducible refine own_dr ?_) | (with_reducible refine own_drN ?_ _) | (with_reducible refine World.ownsRow.alloc ?_ _)));done));(repeat (first | (with_reducible assumption) | (with_reducible exact row_new' (by first | omega | (simp;done) | (simp;omega))) | (with_reducible refine Row.drew ?_) | (with_reducible refine Row.drewN ?_ _) | (with_reducible refine Row.alloc ?_ _) | (with_reducible refine Row.set_other ?_ _ (by first | omega | (simp;done) | (simp;omega)))));done));intro rz2;have z0:=Row.cell_at rz2 0 rfl;have z1:=Row.cell_at rz2 1 rfl;have z2:=Row.cell_at rz2 2 rfl;have zf0:=frozen_of_row _ _ 0 _ _ rz2.2;have zf1:=frozen_of_row _ _ 1 _ _ rz2.2;have zf2:=frozen_of_row _ _ 2 _ _ rz2.2;have zs:=rz2.1) | (refine with_fact (p:=Row W2 (W1.heap.size) (.cells #[.string ⟨#[]⟩,.string ⟨#[]⟩,.slice none 0 0] 26)) ?_ ?_;(focus (refine row_append (n₀:=V.heap.size) (T := 32) (k:=5) (n:=m) (v := .slice p1 m c1) (xs:=pCells l) ?_ hg2 ?_ (by decide);(focus ((repeat (first | (with_reducible assumption) | (with_reducible refine own_dr ?_) | (with_reducible refine own_drN ?_ _) | (with_reducible refine World.ownsRow.alloc ?_ _)));done));(repeat (first | (with_reducible assumption) | (with_reducible exact row_new' (by first | omega | (simp;done) | (simp;omega))) | (with_reducible refine Row.drew ?_) | (with_reducible refine Row.drewN ?_ _) | (with_reducible refine Row.alloc ?_ _) | (with_reducible refine Row.set_other ?_ _ (by first | omega | (simp;done) | (simp;omega)))));done));intro rz2;have z0:=Row.cell_at rz2 0 rfl;have z1:=Row.cell_at rz2 1 rfl;have z2:=Row.cell_at rz2 2 rfl;have zf0:=frozen_of_row _ _ 0 _ _ rz2.2;have zf1:=frozen_of_row _ _ 1 _ _ rz2.2;have zf2:=frozen_of_row _ _ 2 _ _ rz2.2;have zs:=rz2.1) | (refine with_fact (p:=Row W2 (W1.heap.size+1) (.cells #[.string ⟨#[]⟩,.string ⟨#[]⟩,.slice none 0 0] 26)) ?_ ?_;(focus (refine row_append (n₀:=V.heap.size) (T := 32) (k:=5) (n:=m) (v := .slice p1 m c1) (xs:=pCells l) ?_ hg2 ?_ (by decide);(focus ((repeat (first | (with_reducible assumption) | (with_reducible refine own_dr ?_) | (with_reducible refine own_drN ?_ _) | (with_reducible refine World.ownsRow.alloc ?_ _)));done));(repeat (first | (with_reducible assumption) | (with_reducible exact row_new' (by first | omega | (simp;done) | (simp;omega))) | (with_reducible refine Row.drew ?_) | (with_reducible refine Row.drewN ?_ _) | (with_reducible refine Row.alloc ?_ _) | (with_reducible refine Row.set_other ?_ _ (by first | omega | (simp;done) | (simp;omega)))));done));intro rz2;have z0:=Row.cell_at rz2 0 rfl;have z1:=Row.cell_at rz2 1 rfl;have z2:=Row.cell_at rz2 2 rfl;have zf0:=frozen_of_row _ _ 0 _ _ rz2.2;have zf1:=frozen_of_row _ _ 1 _ _ rz2.2;have zf2:=frozen_of_row _ _ 2 _ _ rz2.2;have zs:=rz2.1) | skip);(refine with_fact (p:=Row W2 (w.heap.size+1+1) (.cells #[.string ⟨#[]⟩,.string ⟨#[]⟩,.slice none 0 0] 26)) ?_ ?_;(focus (refine own_row_ne (n₀:=V.heap.size) (T := 32) (k:=5) (n:=m) (v := .slice p1 m c1) (xs:=pCells l) ?_ hg2 ?_ vo;(focus ((repeat (first | (with_reducible assumption) | (with_reducible refine own_dr ?_) | (with_reducible refine own_drN ?_ _) | (with_reducible refine World.ownsRow.alloc ?_ _)));done));(repeat (first | (with_reducible assumption) | (with_reducible exact row_new' (by first | omega | (simp;done) | (simp;omega))) | (with_reducible refine Row.drew ?_) | (with_reducible refine Row.drewN ?_ _) | (with_reducible refine Row.alloc ?_ _) | (with_reducible refine Row.set_other ?_ _ (by first | omega | (simp;done) | (simp;omega)))));done));clear ro;intro ro);(refine with_fact (p:=Row W2 (w.heap.size) (.cells #[.string (S r.num),.string (S (r.den:Int)),.slice p m c] 26)) ?_ ?_;(focus (refine own_row_ne (n₀:=V.heap.size) (T := 32) (k:=5) (n:=m) (v := .slice p1 m c1) (xs:=pCells l) ?_ hg2 ?_ (by omega);(focus ((repeat (first | (with_reducible assumption) | (with_reducible refine own_dr ?_) | (with_reducible refine own_drN ?_ _) | (with_reducible refine World.ownsRow.alloc ?_ _)));done));(repeat (first | (with_reducible assumption) | (with_reducible exact row_new' (by first | omega | (simp;done) | (simp;omega))) | (with_reducible refine Row.drew ?_) | (with_reducible refine Row.drewN ?_ _) | (with_reducible refine Row.alloc ?_ _) | (with_reducible refine Row.set_other ?_ _ (by first | omega | (simp;done) | (simp;omega)))));done));clear rh;intro rh);(refine with_fact (p:=Row W2 (w.heap.size+1) (.cells #[.int .i64 (a.t:Int),.string (S a.iv.lo.num),.string (S (a.iv.lo.den:Int)),.string (S a.iv.hi.num),.string (S (a.iv.hi.den:Int))] 32)) ?_ ?_;(focus (refine own_row_ne (n₀:=V.heap.size) (T := 32) (k:=5) (n:=m) (v := .slice p1 m c1) (xs:=pCells l) ?_ hg2 ?_ (by omega);(focus ((repeat (first | (with_reducible assumption) | (with_reducible refine own_dr ?_) | (with_reducible refine own_drN ?_ _) | (with_reducible refine World.ownsRow.alloc ?_ _)));done));(repeat (first | (with_reducible assumption) | (with_reducible exact row_new' (by first | omega | (simp;done) | (simp;omega))) | (with_reducible refine Row.drew ?_) | (with_reducible refine Row.drewN ?_ _) | (with_reducible refine Row.alloc ?_ _) | (with_reducible refine Row.set_other ?_ _ (by first | omega | (simp;done) | (simp;omega)))));done));clear rq;intro rq);(refine with_fact (p:=Below w.heap.size w W2) ?_ ?_;(focus (refine Below.grown ?_ hg2 ?_ ?_;(focus (exact BW));(focus (first | omega | (simp;omega)));(focus (intro k hk;have hk2:=(World.ownsRow.lt hown k hk).1;omega))));clear hB;intro hB);have w2o:=ro.1))
  all_goals (refine ⟨rfl,_,c2,p2,_,_,_,_,_,_,_,_,_,_,rfl,?_,?_,?_,?_,?_,?_⟩)
  all_goals first | (with_reducible exact hB) | ((repeat (first | (with_reducible exact hB) | (with_reducible refine Below.alloc ?_ (by first | omega | (simp;done) | (simp;omega)) _) | (with_reducible refine Below.setCell ?_ (by first | omega | (simp;done) | (simp;omega)) _)));done) | (with_reducible exact ro) | omega | ((repeat (first | (with_reducible assumption) | (with_reducible exact row_new' (by first | omega | (simp;done) | (simp;omega))) | (with_reducible refine Row.alloc ?_ _) | (with_reducible apply Row.set3) | (with_reducible refine Row.set_other ?_ _ (by first | omega | (simp;done) | (simp;omega)))));done) | ((repeat (first | (with_reducible assumption) | (with_reducible refine own_dr ?_) | (with_reducible refine own_drN ?_ _) | (with_reducible refine World.ownsRow.alloc ?_ _)));done) | (refine own_set3 (vs:=#[.string ⟨#[]⟩,.string ⟨#[]⟩,.slice none 0 0]) (T' := 26) ?_ ?_ (by decide);(focus ((repeat (first | (with_reducible assumption) | (with_reducible refine own_dr ?_) | (with_reducible refine own_drN ?_ _) | (with_reducible refine World.ownsRow.alloc ?_ _)));done));(repeat (first | (with_reducible assumption) | (with_reducible exact row_new' (by first | omega | (simp;done) | (simp;omega))) | (with_reducible refine Row.drew ?_) | (with_reducible refine Row.drewN ?_ _) | (with_reducible refine Row.alloc ?_ _) | (with_reducible refine Row.set_other ?_ _ (by first | omega | (simp;done) | (simp;omega)))));done) | (simp;omega)
 case rest =>
  clear MC MI MK MV HP rh rq ro hB
  clear sh
  clear sq
  clear so
  rintro ex ac wx ⟨rfl,bo,c2,p2,u17,u18,u19,u20,u21,u22,u23,u24,u25,u26,rfl,hB,ro,rz,hne,hle,hown⟩
  skip
  have so:=RFz3 ro
  have sz:=RF3 rz
  have hVw:w.heap.size≤V.heap.size:=by omega
  have HPA:PAt wx p2 l2:=by obtain ⟨p3,c3,e3,_,_,h3⟩:=PRow.open (own_row (by rw [HIL.out];exact hown));injection e3 with e5;subst e5;exact h3
  have HPA:=Lib.hid HPA
  replace hown:=own_at hown hVw
  have hwx:Below wx.heap.size wx wx:=Below.refl _ _
  go_wp2_with fail
  refine (MV2 _ _ _ (HPA.out.below (Below.refl _ _)) (he.below hB)).mono ?_
  rintro e W4 ⟨rfl,h1⟩
  clear so
  clear sz
  replace hB:=hB.trans (h1.mono hB.size)
  replace ro:=Row.below ro h1
  replace rz:=Row.below rz h1
  replace hown:=own_later hown h1
  clear h1
  have so:=RFz3 ro
  have sz:=RF3 rz
  go_wp2_with fail
  have sB:=hB.size
  refine post_cut (fun X=>Below w.heap.size w X∧Row X (w.heap.size+1+1) (.cells #[.string (S r.num),.string (S (r.den:Int)),.slice p2 (m+1) c2] 26)∧X.ownsRow w.heap.size 32 5 (.slice p2 (m+1) c2) (m+1) (pCells l2)) ⟨BW,RWh,own_set3 hown ro (by decide)⟩ ?_
  clear hB ro hown
  rintro X ⟨hB,ro,hown⟩
  have e0:=Row.cell_at ro 0 rfl
  have e1:=Row.cell_at ro 1 rfl
  have e2:=Row.cell_at ro 2 rfl
  refine bodyPost_ret (v := .tuple #[.agg #[.string (S r.num),.string (S (r.den:Int)),.slice p2 (m+1) c2],.int .i64 0]) ?res rfl ⟨p2,c2,hown,rfl,hB⟩
  case res=>simp [results,Tryz.results18, go_sem,e0,e1,e2]
end Go.Proofs.YtnokpldomlmamaaGreatDoor
