/-
 drift.At at valid histories: what is known at a time, or that nothing is. drift.At where it hands back an error ahead of its loop; drift.Contradictions. drift.Add: a valid history, with a further valid point. Package affine: a term appended to a row of its own; the closure of linear; compareAt. Package affine: linear, at valid forms, where nothing is too large.
-/
import Derived.Deep.DeepCutAuto
import Derived.Deep.RegionHeld3
import Derived.Deep.RegionLaw
import Derived.Laws.CopyOwn
import Derived.LoopIn
import Derived.LoopNIn
import Derived.OwnWalkIn
import Derived.RangeFuncBound
import Derived.RangeFuncCalls
import Derived.RangeFuncLeaves
import Derived.RangeFuncNested
import Derived.Shelf.Abstract
import Derived.Shelf.RegionOpen
import Derived.Shelf.Spec.SlicesInsertGrow
import Derived.TacticsInMore
import Derived.WalkKit
import Derived.Test.YtdikaoahgleffaaGreatDoorWARange
import Derived.Test.YtdikaoahgleffaaGreatDoorWDPlain3
import Derived.Test.YtdikaoahgleffaaGreatDoorWEValid
import Derived.Test.YtdikaoahgleffaaGreatDoorWOver
import Derived.Test.YtdikaoahgleffaaGreatDoorWTail3
set_option linter.unusedSimpArgs false
set_option linter.unusedVariables false
set_option maxRecDepth 100000
set_option maxHeartbeats 16000000
namespace Go.Proofs.YtdikaoahgleffaaGreatDoor
open Go Go.RowKit Go.Lib Go.Shelf
attribute [local go_sem] Oper.semAt_some normalQ
theorem Row.putObj {W:World} {b D:Nat} {o o':Obj} (h:Row W b o) (hne:b≠D):Row (W.putObj D o') b o:=⟨by simpa using h.1,(World.putObj_heap_other hne).trans h.2⟩
end Go.Proofs.YtdikaoahgleffaaGreatDoor
namespace Go.Proofs.YtdikaoahgleffaaGreatDoor
open Go Go.RowKit Go.Lib Go.Shelf
attribute [local go_sem] Oper.semAt_some normalQ
theorem own_other {n₀:Nat} {T T':TypeId} {k n b:Nat} {v:Value} {xs:List Value} {vs:Array Value} {A:World} (h:A.ownsRow n₀ T k v n xs) (r:Row A b (.cells vs T')) (hne:T'≠T) (i:Nat) (u:Value):(A.setCell ⟨b,i,none⟩ u).ownsRow n₀ T k v n xs :=
 ownsRow_setCell_other h (a:=⟨b,i,none⟩) (fun e=>by
  rcases h.2 with ⟨e1,_⟩ | ⟨g,cap,cur,e1,hb,e2,_⟩
  ·rw [e1] at e;simp [Value.ownBlock] at e
  ·rw [e1] at e;simp [Value.ownBlock] at e;subst e;have:=r.2.symm.trans e2;simp at this;exact hne this.2) u
end Go.Proofs.YtdikaoahgleffaaGreatDoor
namespace Go.Proofs.YtdikaoahgleffaaGreatDoor
open Go Go.RowKit Go.Lib Go.Shelf
theorem own_later {w w':World} {base:Nat} {e:TypeId} {size:Nat} {v:Value} {n:Nat} {xs:List Value} (h:w.ownsRow base e size v n xs) (hB:Below w.heap.size w w'):w'.ownsRow base e size v n xs :=
 ⟨h.1,h.2.elim .inl fun ⟨g,cap,cur,e,h0,hg,r⟩ => .inr ⟨g,cap,cur,e,h0,(hB.block g (Array.getElem?_eq_some_iff.1 hg).1).trans hg,r⟩⟩
theorem own_row_ne {n₀ n b:Nat} {v:Value} {xs:List Value} {T T':TypeId} {k:Nat} {vs:Array Value} {A B:World} (h:A.ownsRow n₀ T k v n xs) (hg:A.grownBy B v.ownBlock) (r:Row A b (.cells vs T')) (hb:b<n₀):Row B b (.cells vs T') :=
 ⟨Nat.lt_of_lt_of_le r.1 hg.size,(hg.block b r.1 fun e=>by have:=h.lt b e.symm;omega).trans r.2⟩
end Go.Proofs.YtdikaoahgleffaaGreatDoor
namespace Go.Proofs.YtdikaoahgleffaaGreatDoor
open Go Go.RowKit Go.Lib Go.Shelf
attribute [local go_sem] normalQ
theorem termInfo:(Tryz.prog.info? 55).map (fun i=>(i.zero,i.size,i.bytes))=some (some (.agg #[.int .i64 0,.string ⟨#[]⟩,.string ⟨#[]⟩]),3,40):=by kernel_rfl
abbrev OT (W:World) (n0:Nat) (p:Option Addr) (c:Nat) (l:List Trm):Prop:=W.ownsRow n0 55 3 (.slice p l.length c) l.length (uCells (raws l))
theorem OT.tat {W:World} {n0:Nat} {p:Option Addr} {c:Nat} {l:List Trm} (h:OT W n0 p c l):TAt 55 W p l:=own_uat h (raws_length l)
theorem OT.nil (W:World) (n0:Nat):OT W n0 none 0 []:=⟨rfl,.inl ⟨rfl,rfl⟩⟩
theorem OT.later {W W':World} {n0:Nat} {p:Option Addr} {c:Nat} {l:List Trm} (h:OT W n0 p c l) (hB:Below W.heap.size W W'):OT W' n0 p c l:=own_later h hB
theorem uCells_snoc (l:List Trm) (t:Trm):uCells (raws (l ++ [t]))=uCells (raws l) ++ [.int .i64 (t.s:Int),.string (S t.c.num),.string (S (t.c.den:Int))]:=by
 rw [raws_app,uCells_app];rfl
theorem wpl_append_term {ops:Array Oper} {rest:List Oper} {o:Oper} {a:Act} {Q:Exit→Act→World→Prop} {w:World} (hgd:o.guard=none) (s x:Operand)
  (ho:o.op = .call { callee := .builtin .append,args:=#[s,x],argTypes:=#[28, 28] }) (n0:Nat) (p:Option Addr) (c:Nat) (l:List Trm) (t:Trm) (hs:a.eval s = .slice p l.length c) (hown:OT w n0 p c l)
  (B:Nat) (hx:a.eval x = .slice (some ⟨B,0,none⟩) 1 1) (hr:Row w B (oT (t.s:Int) t.c)) (hl:l.length≤100000) (hbase:n0≤w.heap.size)
  (h:∀ p' c' w',OT w' n0 p' c' (l ++ [t])→w.grownBy w' (Value.slice p l.length c).ownBlock→wpList Tryz.prog ops Q rest (a.put o.dst (.slice p' (l ++ [t]).length c')) w'):wpList Tryz.prog ops Q (o :: rest) a w:=by
 obtain ⟨i0,hi,hz0,hz1,hz2⟩:=info_parts termInfo;refine wpList_append_reads _ hgd s x 28 ho n0 55 i0 (.agg #[.int .i64 0,.string ⟨#[]⟩,.string ⟨#[]⟩]) 3 40 Tryz.underlying28 hi hz0 hz1 hz2 rfl (by decide) (.slice p l.length c) l.length (uCells (raws l)) hs hown (B+1) (some ⟨B,0,none⟩) 1 1
  [.int .i64 (t.s:Int),.string (S t.c.num),.string (S (t.c.den:Int))] hx ?_ ?_ (by unfold maxLen;omega) (by omega) hbase ?_
 ·refine ⟨rfl,fun _=>⟨_,rfl,Nat.lt_succ_self _,fun j u hu => ?_⟩⟩;have:=Row.cell_lit' hr j (v:=u) (by rw [← hu];simp);rcases Nat.eq_zero_or_pos j with rfl | hj
  ·simpa [Addr.add] using this
  ·simpa [Addr.add,Nat.ne_of_gt hj] using this
 ·intro u hu;simp only [List.mem_cons,List.not_mem_nil,or_false] at hu;rcases hu with rfl | rfl | rfl <;> rfl
 ·intro v' w' hown' hg;obtain ⟨p',c',rfl⟩:=own_slice hown';have hlen:(l ++ [t]).length=l.length+1:=by simp
  rw [← uCells_snoc] at hown';have ho2:OT w' n0 p' c' (l ++ [t]):=by unfold OT;rw [hlen];exact hown'
  have:=h p' c' w' ho2 hg;rw [hlen] at this;exact this
def snocA (l:List Trm) (s:Nat) (c:Rat):List Trm:=if c=0 then l else l ++ [⟨s,c⟩]
def AppRes (bo n0:Nat) (z1 z2 z3 z4:Value) (l:List Trm) (w:World) (e:Ending) (w':World):Prop :=
 ∃ p c,Row w' bo (.cells #[z1,z2,.slice p l.length c,z3,z4] 30)∧OT w' n0 p c l∧e = .returned (.tuple #[])∧Below bo w w'
theorem alin1_nz {n0:Nat} (s:Nat) {q:Rat} (hq:QDig 200 q) (h0:q≠0) (bo:Nat) (z1 z2 z3 z4:Value) (p:Option Addr) (c:Nat) (l:List Trm) (hl:l.length≤100000) (w:World) (ro:Row w bo (.cells #[z1,z2,.slice p l.length c,z3,z4] 30)) (hown:OT w n0 p c l) (hbo:bo<n0) (hn0:n0≤w.heap.size) (hbs:bo≤w.heap.size) (he:Env w):Calls Tryz.prog 116 #[.int .i64 (s:Int),Q q,.pointer (some ⟨bo,0,none⟩)] w (AppRes bo n0 z1 z2 z3 z4 (l ++ [⟨s,q⟩]) w):=by
 have hB:Below w.heap.size w w:=Below.refl _ _;have M:=fun W (H:Env W)=>nsign hq W H
 have hg:¬ cmpQ q 0=0:=fun e=>h0 (cmpQ_eq.1 e)
 unfold CmpOk at M;unfold AppRes;generalize hgg:cmpQ q 0=g at *;unfold Q at *;have hge:(g == 0)=false:=beq_eq_false_iff_ne.2 hg;clear hgg hq;have so:=RFz5 ro;go_enter Tryz.func116, Tryz.ntmps116;go_wp2_with fail;have do_c:bo<w.heap.size:=by omega
 have sB:=hB.size;refine world_cut (kp1 hB ro fun X=>Row X w.heap.size (oN q)) ⟨BW,RW8,RW8⟩ ?_;unfold kp1;clear ro so hB sB;rintro V1 ⟨hB,ro,rc⟩;have so:=RFz5 ro;have sc:=RF2 rc;refine (M _ (he.below hB)).mono ?_;rintro e W2 ⟨rfl,h1⟩;have stp:=St2 hB h1 ro rc;clear hB h1 ro so rc sc;obtain ⟨hB,ro,rc⟩:=stp;have so:=RFz5 ro;have sc:=RF2 rc;go_wp2_with (at_builtin;refine wpl_append_term rfl (.tmp 9) (.tmp 14) rfl n0 p c l ⟨s,q⟩ rfl (World.ownsRow.alloc (OT.later hown hB) _) _ rfl (row_new _ _) hl (by simp;have:=hB.size;omega) ?_;intro p' c' W7 hown' hg';replace ro:=own_row_ne (World.ownsRow.alloc (OT.later hown hB) _) hg' (Row.alloc ro _) hbo;have hB7:=Below.grown ((hB.mono hbs).alloc (by have:=hB.size;omega) _) hg' (by simp;have:=hB.size;omega) (fun k hk=>by have:=(World.ownsRow.lt (OT.later hown hB) k hk).1;omega);clear hg';have so:=RFz5 ro);go_end0;exact ⟨p',c',(by simp only [List.length_append,List.length_cons,List.length_nil,Nat.zero_add];exact RW8),own_other hown' ro form_ne 2 _,rfl,Below.setCell hB7 (p:=⟨bo,2,none⟩) (Nat.le_refl _) _⟩
theorem alin1_z {n0:Nat} (s:Nat) {q:Rat} (hq:QDig 200 q) (h0:q=0) (bo:Nat) (z1 z2 z3 z4:Value) (p:Option Addr) (c:Nat) (l:List Trm) (hl:l.length≤100000) (w:World) (ro:Row w bo (.cells #[z1,z2,.slice p l.length c,z3,z4] 30)) (hown:OT w n0 p c l) (hbo:bo<n0) (hn0:n0≤w.heap.size) (hbs:bo≤w.heap.size) (he:Env w):Calls Tryz.prog 116 #[.int .i64 (s:Int),Q q,.pointer (some ⟨bo,0,none⟩)] w (AppRes bo n0 z1 z2 z3 z4 l w):=by
 have hB:Below w.heap.size w w:=Below.refl _ _;have M:=fun W (H:Env W)=>nsign hq W H
 have hg:cmpQ q 0=0:=cmpQ_eq.2 h0;unfold CmpOk at M;unfold AppRes;generalize hgg:cmpQ q 0=g at *;unfold Q at *;subst hg;clear hgg hq h0;have so:=RFz5 ro;go_enter Tryz.func116, Tryz.ntmps116;go_wp2_with fail;have do_c:bo<w.heap.size:=by omega
 have sB:=hB.size;refine world_cut (kp1 hB ro fun X=>Row X w.heap.size (oN q)) ⟨BW,RW8,RW8⟩ ?_;unfold kp1;clear ro so hB sB;rintro V1 ⟨hB,ro,rc⟩;have so:=RFz5 ro;have sc:=RF2 rc;refine (M _ (he.below hB)).mono ?_;rintro e W2 ⟨rfl,h1⟩;have stp:=St2 hB h1 ro rc;clear hB h1 ro so rc sc;obtain ⟨hB,ro,rc⟩:=stp;have so:=RFz5 ro;have sc:=RF2 rc;go_wp2;go_end0;exact ⟨p,c,RW8,OT.later hown hB,rfl,hB.mono hbs⟩
theorem alin1 {n0:Nat} (s:Nat) {q:Rat} (hq:QDig 200 q) (bo:Nat) (z1 z2 z3 z4:Value) (p:Option Addr) (c:Nat) (l:List Trm) (hl:l.length≤100000) (w:World) (ro:Row w bo (.cells #[z1,z2,.slice p l.length c,z3,z4] 30)) (hown:OT w n0 p c l) (hbo:bo<n0) (hn0:n0≤w.heap.size) (hbs:bo≤w.heap.size) (he:Env w):Calls Tryz.prog 116 #[.int .i64 (s:Int),Q q,.pointer (some ⟨bo,0,none⟩)] w (AppRes bo n0 z1 z2 z3 z4 (snocA l s q) w):=by
 unfold snocA;split
 ·rename_i h;exact alin1_z s hq h bo z1 z2 z3 z4 p c l hl w ro hown hbo hn0 hbs he
 ·rename_i h;exact alin1_nz s hq h bo z1 z2 z3 z4 p c l hl w ro hown hbo hn0 hbs he
def ordT (a b:List Trm) (i k:Nat):Int:=if a.length≤i then 1 else if b.length≤k then -1 else compareInt ((trD a i).s:Int) ((trD b k).s:Int)
theorem acompare (x y:Int) (w:World):Calls Tryz.prog 126 #[.int .i64 x,.int .i64 y] w (IntIs (compareInt x y) w) :=
 (Tryz.cmp_Compare_int x y w).mono fun e w' h=>⟨h.1,h.2 ▸ Below.refl _ _⟩
theorem acmp_0 {a b:List Trm} (i j n m ca cb:Nat) (pa pb:Option Addr) (han:a.length=n) (hbm:b.length=m) (h1:a.length≤i) (w:World):Calls Tryz.prog 117 #[.slice pa n ca,.int .i64 (i:Int),.slice pb m cb,.int .i64 (j:Int)] w (IntIs (ordT a b i j) w):=by
 have hB:Below w.heap.size w w:=Below.refl _ _;unfold ordT IntIs;rw [if_pos h1];have h1I:(n:Int)≤(i:Int):=by omega
 clear h1;go_enter Tryz.func117, Tryz.ntmps117;go_wp2;go_ret;exact ⟨rfl,hB⟩
theorem acmp_1 {a b:List Trm} (i j n m ca cb:Nat) (pa pb:Option Addr) (han:a.length=n) (hbm:b.length=m) (h1:¬ a.length≤i) (h2:b.length≤j) (w:World):Calls Tryz.prog 117 #[.slice pa n ca,.int .i64 (i:Int),.slice pb m cb,.int .i64 (j:Int)] w (IntIs (ordT a b i j) w):=by
 have hB:Below w.heap.size w w:=Below.refl _ _;unfold ordT IntIs;rw [if_neg h1];have h1I:¬ (n:Int)≤(i:Int):=by omega
 rw [if_pos h2];have h2I:(m:Int)≤(j:Int):=by omega
 go_enter Tryz.func117, Tryz.ntmps117;go_wp2;go_ret;exact ⟨rfl,hB⟩
theorem acmp_2 {a b:List Trm} (i j n m ca cb:Nat) (pa pb:Option Addr) (han:a.length=n) (hbm:b.length=m) (h1:¬ a.length≤i) (h2:¬ b.length≤j) (w:World) (hpa:TAt 55 w pa a) (hpb:TAt 55 w pb b):Calls Tryz.prog 117 #[.slice pa n ca,.int .i64 (i:Int),.slice pb m cb,.int .i64 (j:Int)] w (IntIs (ordT a b i j) w):=by
 have hB:Below w.heap.size w w:=Below.refl _ _;unfold ordT IntIs;rw [if_neg h1];have h1I:¬ (n:Int)≤(i:Int):=by omega
 rw [if_neg h2];have h2I:¬ (m:Int)≤(j:Int):=by omega
 have hl1:i<a.length:=by omega
 have hl2:j<b.length:=by omega
 have HPa:=Lib.hid hpa;have HPb:=Lib.hid hpb;have M:=fun W=>acompare ((trD a i).s:Int) ((trD b j).s:Int) W
 unfold IntIs at M;generalize compareInt ((trD a i).s:Int) ((trD b j).s:Int)=r at *;obtain ⟨x,hx⟩:∃ x,x=trD a i:=⟨_,rfl⟩
 obtain ⟨y,hy⟩:∃ y,y=trD b j:=⟨_,rfl⟩
 rw [← hx,← hy] at M;have hiI:(i:Int)<(n:Int):=by omega
 have hjI:(j:Int)<(m:Int):=by omega
 clear h1 h2 hpa hpb;obtain ⟨g1,gcur,rfl,rg1,g0,g1c,g2⟩:=TAt.at (UAt.below HPa.out hB) hl1;rw [← hx] at g0 g1c g2;clear hx;have Fg1:∀ X,Row X g1 (.cells gcur 55)→(g1<X.heap.size∧X.cell? ⟨g1,i * 3,none⟩=some (.int .i64 (x.s:Int))∧X.cell? ⟨g1,i * 3+1,none⟩=some (.string (S x.c.num))∧X.cell? ⟨g1,i * 3+2,none⟩=some (.string (S (x.c.den:Int)))):=fun X h=>⟨h.1,Row.cell_at h _ g0,Row.cell_at h _ g1c,Row.cell_at h _ g2⟩
 have sg1:=Fg1 _ rg1;obtain ⟨g2b,kcur,rfl,rg2b,k0,k1,k2⟩:=TAt.at (UAt.below HPb.out hB) hl2;rw [← hy] at k0 k1 k2;clear hy;have Fg2b:∀ X,Row X g2b (.cells kcur 55)→(g2b<X.heap.size∧X.cell? ⟨g2b,j * 3,none⟩=some (.int .i64 (y.s:Int))∧X.cell? ⟨g2b,j * 3+1,none⟩=some (.string (S y.c.num))∧X.cell? ⟨g2b,j * 3+2,none⟩=some (.string (S (y.c.den:Int)))):=fun X h=>⟨h.1,Row.cell_at h _ k0,Row.cell_at h _ k1,Row.cell_at h _ k2⟩
 have sg2b:=Fg2b _ rg2b;clear hl1 hl2 han hbm;go_enter Tryz.func117, Tryz.ntmps117;go_wp2_with fail;refine wp_region_items3 10 [.val (.slice (some ⟨g1,0,none⟩) n ca),.val (.int .i64 (i:Int)),.val (.pointer (some ⟨g1,i * 3,none⟩)),.val (.pointer (some ⟨g1,i * 3,none⟩)),.val (.int .i64 (x.s:Int)),.val (.slice (some ⟨g2b,0,none⟩) m cb),.val (.int .i64 (j:Int)),.val (.pointer (some ⟨g2b,j * 3,none⟩)),.val (.pointer (some ⟨g2b,j * 3,none⟩)),.val (.int .i64 (y.s:Int))] [] (by kernel_rfl) (by kernel_rfl) rfl trivial (allItems.cons qi0 (allItems.cons qi0 (allItems.cons (qif hiI) (allItems.cons qi0 (allItems.cons (qi1 fun X h=>Fg1 X (Row.below rg1 h)) (allItems.cons qi0 (allItems.cons qi0 (allItems.cons (qif hjI) (allItems.cons qi0 (allItems.cons (qi1 fun X h=>Fg2b X (Row.below rg2b h)) trivial)))))))))) ?_;rintro W h1;have stp:=St2 hB h1 rg1 rg2b;clear hB h1 rg1 sg1 rg2b sg2b;obtain ⟨hB,rg1,rg2b⟩:=stp;have sg1:=Fg1 _ rg1;have sg2b:=Fg2b _ rg2b;simp only [setItems,List.setIfInBounds_toArray,List.set_cons_succ,List.set_cons_zero,List.take_succ_cons,List.take_zero,List.drop_succ_cons,List.drop_zero];intro _;go_wp2_with fail;refine (M _).mono ?_;rintro e W1 ⟨rfl,h1⟩;have stp:=St2 hB h1 rg1 rg2b;clear hB h1 rg1 sg1 rg2b sg2b;obtain ⟨hB,rg1,rg2b⟩:=stp;have sg1:=Fg1 _ rg1;have sg2b:=Fg2b _ rg2b;go_wp2;go_ret;exact ⟨rfl,hB⟩
theorem acmp {a b:List Trm} (i j n m ca cb:Nat) (pa pb:Option Addr) (han:a.length=n) (hbm:b.length=m) (w:World) (hpa:TAt 55 w pa a) (hpb:TAt 55 w pb b):Calls Tryz.prog 117 #[.slice pa n ca,.int .i64 (i:Int),.slice pb m cb,.int .i64 (j:Int)] w (IntIs (ordT a b i j) w):=by
 by_cases h1:a.length≤i
 ·exact acmp_0 i j n m ca cb pa pb han hbm h1 w
 ·by_cases h2:b.length≤j
  ·exact acmp_1 i j n m ca cb pa pb han hbm h1 h2 w
  ·exact acmp_2 i j n m ca cb pa pb han hbm h1 h2 w hpa hpb
end Go.Proofs.YtdikaoahgleffaaGreatDoor
namespace Go.Proofs.YtdikaoahgleffaaGreatDoor
open Go Go.RowKit Go.Lib Go.Shelf
attribute [local go_sem] normalQ
theorem Row.belowN {W W':World} {n b:Nat} {o:Obj} (h:Row W b o) (hb:b<n) (hB:Below n W W'):Row W' b o:=⟨Nat.lt_of_lt_of_le h.1 hB.size,(hB.block _ hb).trans h.2⟩
theorem snocA_ahead (o:List Trm) (s:Nat) (c:Rat) (r:List Trm):o ++ ahead s c r=snocA o s c ++ r:=by
 unfold ahead snocA;split <;> simp
theorem drop_nil' {l:List Trm} {i:Nat} (h:l.length≤i):l.drop i=[]:=List.drop_eq_nil_of_le h
theorem lin_round (p q:Rat) (a b:List Trm) (i k:Nat) :
  (a.length≤i∧b.length≤k∧lin p q (a.drop i) (b.drop k)=[])
  ∨ (i<a.length∧ordT a b i k<0∧lin p q (a.drop i) (b.drop k)=ahead (trD a i).s (p * (trD a i).c) (lin p q (a.drop (i+1)) (b.drop k)))
  ∨ (i<a.length∧k<b.length∧0<ordT a b i k∧lin p q (a.drop i) (b.drop k)=ahead (trD b k).s (q * (trD b k).c) (lin p q (a.drop i) (b.drop (k+1))))
  ∨ (a.length≤i∧k<b.length∧0<ordT a b i k∧lin p q (a.drop i) (b.drop k)=ahead (trD b k).s (q * (trD b k).c) (lin p q (a.drop i) (b.drop (k+1))))
  ∨ (i<a.length∧k<b.length∧ordT a b i k=0∧(trD a i).s=(trD b k).s∧lin p q (a.drop i) (b.drop k)=ahead (trD a i).s (p * (trD a i).c+q * (trD b k).c) (lin p q (a.drop (i+1)) (b.drop (k+1)))):=by
 by_cases h1:a.length≤i
 ·by_cases h2:b.length≤k
  ·exact .inl ⟨h1,h2,by rw [drop_nil' h1,drop_nil' h2,lin_nil]⟩
  ·refine .inr (.inr (.inr (.inl ⟨h1,by omega,?_,?_⟩)))
   ·unfold ordT;rw [if_pos h1];decide
   ·rw [drop_nil' h1,drop_trD (show k<b.length by omega),lin_right]
 ·by_cases h2:b.length≤k
  ·refine .inr (.inl ⟨by omega,?_,?_⟩)
   ·unfold ordT;rw [if_neg h1,if_pos h2];decide
   ·rw [drop_nil' h2,drop_trD (show i<a.length by omega),lin_left]
  ·have e1:=drop_trD (show i<a.length by omega);have e2:=drop_trD (show k<b.length by omega);have ho:ordT a b i k=compareInt ((trD a i).s:Int) ((trD b k).s:Int):=by unfold ordT;rw [if_neg h1,if_neg h2]
   rcases Nat.lt_trichotomy (trD a i).s (trD b k).s with h | h | h
   ·refine .inr (.inl ⟨by omega,?_,?_⟩)
    ·rw [ho];unfold compareInt;rw [if_pos (by omega)];decide
    ·rw [e1,e2,lin_both,if_pos h]
   ·refine .inr (.inr (.inr (.inr ⟨by omega,by omega,?_,h,?_⟩)))
    ·rw [ho];unfold compareInt;rw [if_neg (by omega),if_neg (by omega)]
    ·rw [e1,e2,lin_both,if_neg (by omega),if_neg (by omega)]
   ·refine .inr (.inr (.inl ⟨by omega,by omega,?_,?_⟩))
    ·rw [ho];unfold compareInt;rw [if_neg (by omega),if_pos (by omega)];decide
    ·rw [e1,e2,lin_both,if_neg (by omega),if_pos h]
def LinRes (p q:Rat) (a b:Frm) (w:World) (e:Ending) (w':World):Prop:=∃ p' c',TAt 55 w' p' (lin p q a.t b.t)∧e = .returned (.agg #[.string ⟨#[]⟩,.string ⟨#[]⟩,.slice p' (lin p q a.t b.t).length c',.string (S (absQ p * a.r+absQ q * b.r).num),.string (S ((absQ p * a.r+absQ q * b.r).den:Int))])∧Below w.heap.size w w'
theorem alinear {p q:Rat} {a b:Frm} (h:LinF p q a b) (la:a.t.length≤100000) (lb:b.t.length≤100000) (pa:Option Addr) (ca:Nat) (pb:Option Addr) (cb:Nat) (w:World) (hpa:TAt 55 w pa a.t) (hpb:TAt 55 w pb b.t) (he:Env w) :
  Calls Tryz.prog 45 #[FV a pa ca,FV b pb cb,Q p,Q q] w (LinRes p q a b w):=by
 have hB:Below w.heap.size w w:=Below.refl _ _;obtain ⟨n,han⟩:=form_len a;obtain ⟨m,hbm⟩:=form_len b;have HPa:=Lib.hid hpa;have HPb:=Lib.hid hpb;have ML:=fun i (hi:i<a.t.length) W (H:Env W)=>nmul (h.l _ (trD_mem hi)) W H
 have DL:=fun i (hi:i<a.t.length)=>(h.l _ (trD_mem hi)).dig
 have MR:=fun k (hk:k<b.t.length) W (H:Env W)=>nmul (h.r _ (trD_mem hk)) W H
 have DR:=fun k (hk:k<b.t.length)=>(h.r _ (trD_mem hk)).dig
 have MS:=fun i k (hi:i<a.t.length) (hk:k<b.t.length) (hs:(trD a.t i).s=(trD b.t k).s) W (H:Env W)=>nadd (h.s _ (trD_mem hi) _ (trD_mem hk) hs) W H
 have DS:=fun i k (hi:i<a.t.length) (hk:k<b.t.length) (hs:(trD a.t i).s=(trD b.t k).s)=>(h.s _ (trD_mem hi) _ (trD_mem hk) hs).dig
 have MC:=fun i k W (h1:TAt 55 W pa a.t) (h2:TAt 55 W pb b.t)=>acmp i k n m ca cb pa pb han hbm W h1 h2
 have Mp:=fun W (H:Env W)=>nabs h.dp W H
 have Mq:=fun W (H:Env W)=>nabs h.dq W H
 have Mrl:=fun W (H:Env W)=>nmul h.rl W H
 have Mrr:=fun W (H:Env W)=>nmul h.rr W H
 have Mrs:=fun W (H:Env W)=>nadd h.rs W H
 have hfew:=h.few;have LR:=lin_round p q a.t b.t;unfold LinRes;unfold QIs at *;unfold IntIs at MC;unfold FV;unfold Q at *;generalize absQ p * a.r+absQ q * b.r=rs at *;generalize absQ p * a.r=rl at *;generalize absQ q * b.r=rr at *;generalize absQ p=ap at *;generalize absQ q=aq at *;rw [han,hbm];have hnI:(n:Int)≤100000:=by omega
 have hmI:(m:Int)≤100000:=by omega
 clear la lb;have HLR:=Lib.hid LR;have HAN:=Lib.hid han;have HBM:=Lib.hid hbm;have HLN:Hid (lin p q a.t b.t=[] ++ lin p q (a.t.drop 0) (b.t.drop 0)):=Lib.hid (by simp);generalize hL:lin p q a.t b.t=L at *;clear hL LR han hbm hpa hpb h;go_enter Tryz.func45, Tryz.ntmps45;go_wp2_with fail;have d0_o:w.heap.size≤w.heap.size+1+1+1+1:=by have:=hB.size;omega
 have sB:=hB.size;refine wp_cut (fun X=>Below w.heap.size w X∧Row X w.heap.size (oF a.c a.r pa n ca)∧Row X (w.heap.size+1) (oF b.c b.r pb m cb)∧Row X (w.heap.size+1+1) (oN p)∧Row X (w.heap.size+1+1+1) (oN q)∧Row X (w.heap.size+1+1+1+1) oF0) ⟨BW,RW8,RW8,RW8,RW8,RW8⟩ ?_;clear hB sB;rintro V1 ⟨hB,ra,rb,rp,rq,ro⟩;have sa:=RF5 ra;have sb:=RF5 rb;have sp:=RF2 rp;have sq:=RF2 rq;have so:=RFz5 ro;clear sa sb sp sq so;go_loopw [9,10] (fun v9 v10 wr=>∃ (i k:Nat) (po:Option Addr) (co:Nat) (o:List Trm),v9 = .int .i64 (i:Int)∧v10 = .int .i64 (k:Int)∧i≤n∧k≤m∧Hid (L=o ++ lin p q (a.t.drop i) (b.t.drop k))∧OT wr (w.heap.size+1+1+1+1+1) po co o∧Below w.heap.size w wr∧Row wr w.heap.size (oF a.c a.r pa n ca)∧Row wr (w.heap.size+1) (oF b.c b.r pb m cb)∧Row wr (w.heap.size+1+1) (oN p)∧Row wr (w.heap.size+1+1+1) (oN q)∧Row wr (w.heap.size+1+1+1+1) (.cells #[.string ⟨#[]⟩,.string ⟨#[]⟩,.slice po o.length co,.string ⟨#[]⟩,.string ⟨#[]⟩] 30)) (fun v9 v10 _=>(n - RowKit.intOf v9).toNat+(m - RowKit.intOf v10).toNat)
 case atStart=>exact ⟨0,0,none,0,[],rfl,rfl,by omega,by omega,HLN,OT.nil _ _,hB,ra,rb,rp,rq,ro⟩
 case round =>
  clear hB ra rb rp rq ro HLN;obtain ⟨i,k,po,co,o,rfl,rfl,hin,hkm,HL,hown,hB,ra,rb,rp,rq,ro⟩:=hrel;have hol:o.length≤100000:=by have:=congrArg List.length HL.out;rw [List.length_append] at this;omega
  have sa:=RF5 ra;have sb:=RF5 rb;have sp:=RF2 rp;have sq:=RF2 rq;have so:=RFz5 ro;rcases HLR.out i k with ⟨h1,h2,hs⟩ | ⟨h1,ho,hs⟩ | ⟨h1,h2,ho,hs⟩ | ⟨h1,h2,ho,hs⟩ | ⟨h1,h2,ho,hss,hs⟩
  ·have HS:=Lib.hid hs;clear hs;have hiI:¬ (i:Int)<(n:Int):=by have:=HAN.out;omega
   have hkI:¬ (k:Int)<(m:Int):=by have:=HBM.out;omega
   have hL:L=o:=by rw [HL.out,HS.out,List.append_nil]
   clear HL HS MC ML MR MS DL DR DS HLR;subst hL;have hfI:(L.length:Int)≤64:=by omega
   have FN:=fnum;go_wp2_with fail;refine wp_region_items 14 [.val (.agg #[.string (S p.num),.string (S (p.den:Int))]),.val (.agg #[.string (S ap.num),.string (S (ap.den:Int))]),.val (.pointer (some ⟨w.heap.size,3,none⟩)),.val (.agg #[.string (S a.r.num),.string (S (a.r.den:Int))]),.val (.agg #[.string (S a.r.num),.string (S (a.r.den:Int))]),.val (.agg #[.string (S rl.num),.string (S (rl.den:Int))]),.val (.agg #[.string (S q.num),.string (S (q.den:Int))]),.val (.agg #[.string (S aq.num),.string (S (aq.den:Int))]),.val (.pointer (some ⟨w.heap.size+1,3,none⟩)),.val (.agg #[.string (S b.r.num),.string (S (b.r.den:Int))]),.val (.agg #[.string (S b.r.num),.string (S (b.r.den:Int))]),.val (.agg #[.string (S rr.num),.string (S (rr.den:Int))]),.val (.agg #[.string (S rs.num),.string (S (rs.den:Int))]),.val (.agg #[.string (S rs.num),.string (S (rs.den:Int))])] (by kernel_rfl) (by kernel_rfl) trivial (allItems.cons (qi1 fun X h=>RF2 (Row.below rp h)) (allItems.cons (qi2 fun X h=>Mp X (he.below (hB.trans (h.mono hB.size)))) (allItems.cons qi0 (allItems.cons (qi1 fun X h=>RF5 (Row.below ra h)) (allItems.cons qi0 (allItems.cons (qi2 fun X h=>Mrl X (he.below (hB.trans (h.mono hB.size)))) (allItems.cons (qi1 fun X h=>RF2 (Row.below rq h)) (allItems.cons (qi2 fun X h=>Mq X (he.below (hB.trans (h.mono hB.size)))) (allItems.cons qi0 (allItems.cons (qi1 fun X h=>RF5 (Row.below rb h)) (allItems.cons qi0 (allItems.cons (qi2 fun X h=>Mrr X (he.below (hB.trans (h.mono hB.size)))) (allItems.cons (qi2 fun X h=>Mrs X (he.below (hB.trans (h.mono hB.size)))) (allItems.cons (qif FN) trivial)))))))))))))) ?_
   rintro W h1;replace hown:=OT.later hown h1;have stp:=St5 hB h1 ra rb rp rq ro;clear hB h1 ra sa rb sb rp sp rq sq ro so;obtain ⟨hB,ra,rb,rp,rq,ro⟩:=stp;have sa:=RF5 ra;have sb:=RF5 rb;have sp:=RF2 rp;have sq:=RF2 rq;have so:=RFz5 ro;simp only [setItems,List.setIfInBounds_toArray,List.set_cons_succ,List.set_cons_zero,List.take_succ_cons,List.take_zero,List.drop_succ_cons,List.drop_zero];go_wp2_with fail;have sB:=hB.size;refine world_cut (fun X=>Below w.heap.size w X∧Row X w.heap.size (oF a.c a.r pa n ca)∧Row X (w.heap.size+1) (oF b.c b.r pb m cb)∧Row X (w.heap.size+1+1) (oN p)∧Row X (w.heap.size+1+1+1) (oN q)∧Row X (w.heap.size+1+1+1+1) (oG rs po L.length co)∧OT X (w.heap.size+1+1+1+1+1) po co L) ⟨BW,RW8,RW8,RW8,RW8,RW8,OW⟩ ?_;clear ra sa rb sb rp sp rq sq ro so hB sB hown;rintro V2 ⟨hB,ra,rb,rp,rq,ro,hown⟩;have sa:=RF5 ra;have sb:=RF5 rb;have sp:=RF2 rp;have sq:=RF2 rq;have so:=RFz5 ro;refine (acheck_true _).mono ?_;rintro e W3 ⟨rfl,h1⟩;replace hown:=OT.later hown h1;have stp:=St5 hB h1 ra rb rp rq ro;clear hB h1 ra sa rb sb rp sp rq sq ro so;obtain ⟨hB,ra,rb,rp,rq,ro⟩:=stp;have sa:=RF5 ra;have sb:=RF5 rb;have sp:=RF2 rp;have sq:=RF2 rq;have so:=RFz5 ro;go_wp2_with fail;have sB:=hB.size;refine post_cut (kp5 hB ra rb rp rq ro fun X=>OT X (w.heap.size+1+1+1+1+1) po co L) ⟨BW,RW8,RW8,RW8,RW8,RW8,OW⟩ ?_;unfold kp5;clear ra sa rb sb rp sp rq sq ro so hB sB hown;rintro V4 ⟨hB,ra,rb,rp,rq,ro,hown⟩;have sa:=RF5 ra;have sb:=RF5 rb;have sp:=RF2 rp;have sq:=RF2 rq;have so:=RFz5 ro;refine bodyPost_ret (v := .agg #[.string ⟨#[]⟩,.string ⟨#[]⟩,.slice po L.length co,.string (S rs.num),.string (S (rs.den:Int))]) ?res rfl ⟨po,co,OT.tat hown,rfl,hB⟩
   case res=>simp [results,Tryz.results45, go_sem,so]
  ·have HS:=Lib.hid hs;clear hs;have hiI:(i:Int)<(n:Int):=by have:=HAN.out;omega
   have hiN:i<n:=by have:=HAN.out;omega
   have MC:=MC i k;generalize ordT a.t b.t i k=r at *;have ML:=ML i h1;have DL:=DL i h1;obtain ⟨x,hx⟩:∃ x,x=trD a.t i:=⟨_,rfl⟩
   rw [← hx] at ML DL HS;obtain ⟨ga,gcur,rfl,rga,g0,g1,g2⟩:=TAt.at (UAt.below HPa.out hB) h1;rw [← hx] at g0 g1 g2;clear hx;have Fga:∀ X,Row X ga (.cells gcur 55)→(ga<X.heap.size∧X.cell? ⟨ga,i * 3,none⟩=some (.int .i64 (x.s:Int))∧X.cell? ⟨ga,i * 3+1,none⟩=some (.string (S x.c.num))∧X.cell? ⟨ga,i * 3+2,none⟩=some (.string (S (x.c.den:Int)))):=fun X h=>⟨h.1,Row.cell_at h _ g0,Row.cell_at h _ g1,Row.cell_at h _ g2⟩
   have sga:=Fga _ rga;generalize p * x.c=z at *;have ho2:r<0:=ho;clear ho;go_wp2_with fail;refine (MC _ (UAt.below HPa.out hB) (UAt.below HPb.out hB)).mono ?_;rintro e W2 ⟨rfl,h1⟩;replace hown:=OT.later hown h1;have stp:=St6 hB h1 ra rb rp rq ro rga;clear hB h1 ra sa rb sb rp sp rq sq ro so rga sga;obtain ⟨hB,ra,rb,rp,rq,ro,rga⟩:=stp;have sa:=RF5 ra;have sb:=RF5 rb;have sp:=RF2 rp;have sq:=RF2 rq;have so:=RFz5 ro;have sga:=Fga _ rga;go_wp2_with fail;refine wp_region_items3 16 [.val (.func (.func 116) #[] #[.pointer (some ⟨w.heap.size+1+1+1+1,0,none⟩)]),.val (.pointer (some ⟨w.heap.size,2,none⟩)),.val (.slice (some ⟨ga,0,none⟩) n ca),.val (.int .i64 (i:Int)),.val (.pointer (some ⟨ga,i * 3,none⟩)),.val (.pointer (some ⟨ga,i * 3,none⟩)),.val (.int .i64 (x.s:Int)),.val (.agg #[.string (S p.num),.string (S (p.den:Int))]),.val (.pointer (some ⟨w.heap.size,2,none⟩)),.val (.slice (some ⟨ga,0,none⟩) n ca),.val (.int .i64 (i:Int)),.val (.pointer (some ⟨ga,i * 3,none⟩)),.val (.pointer (some ⟨ga,i * 3+1,none⟩)),.val (.agg #[.string (S x.c.num),.string (S (x.c.den:Int))]),.val (.agg #[.string (S x.c.num),.string (S (x.c.den:Int))]),.val (.agg #[.string (S z.num),.string (S (z.den:Int))])] [] (by kernel_rfl) (by kernel_rfl) rfl trivial (allItems.cons qi0 (allItems.cons qi0 (allItems.cons (qi1 fun X h=>RF5 (Row.below ra h)) (allItems.cons qi0 (allItems.cons (qif hiI) (allItems.cons qi0 (allItems.cons (qi1 fun X h=>Fga X (Row.below rga h)) (allItems.cons (qi1 fun X h=>RF2 (Row.below rp h)) (allItems.cons qi0 (allItems.cons (qi1 fun X h=>RF5 (Row.below ra h)) (allItems.cons qi0 (allItems.cons (qif hiI) (allItems.cons qi0 (allItems.cons (qi1 fun X h=>Fga X (Row.below rga h)) (allItems.cons qi0 (allItems.cons (qi2 fun X h=>ML X (he.below (hB.trans (h.mono hB.size)))) trivial)))))))))))))))) ?_
   rintro W h1;replace hown:=OT.later hown h1;have stp:=St6 hB h1 ra rb rp rq ro rga;clear hB h1 ra sa rb sb rp sp rq sq ro so rga sga;obtain ⟨hB,ra,rb,rp,rq,ro,rga⟩:=stp;have sa:=RF5 ra;have sb:=RF5 rb;have sp:=RF2 rp;have sq:=RF2 rq;have so:=RFz5 ro;have sga:=Fga _ rga;simp only [setItems,List.setIfInBounds_toArray,List.set_cons_succ,List.set_cons_zero,List.take_succ_cons,List.take_zero,List.drop_succ_cons,List.drop_zero];intro _;go_wp2_with fail;have sbo:=ro.1;refine (alin1 (n0:=w.heap.size+1+1+1+1+1) x.s DL (w.heap.size+1+1+1+1) _ _ _ _ po co o hol _ ro hown (by omega) sbo (Nat.le_of_lt sbo) (he.below hB)).mono ?_;clear sa sb sp sq so sga;rintro e W9 ⟨p',c',ro',hown',rfl,h1⟩;clear sbo;replace hB:=hB.trans (h1.mono (by omega));replace ra:=Row.belowN ra (by omega) h1;replace rb:=Row.belowN rb (by omega) h1;replace rp:=Row.belowN rp (by omega) h1;replace rq:=Row.belowN rq (by omega) h1;clear rga ro hown h1;have ro:=ro';have hown:=hown';clear ro' hown';have sa:=RF5 ra;have sb:=RF5 rb;have sp:=RF2 rp;have sq:=RF2 rq;have so:=RFz5 ro;go_wp2;go_roundw
   case rel=>exact ⟨i+1,k,p',c',snocA o x.s z,by go_num,by go_num,by omega,by omega,Lib.hid (by rw [HL.out,HS.out,snocA_ahead]),hown,BW,RW8,RW8,RW8,RW8,RW8⟩
   case measure=>simp [RowKit.intOf];omega
  ·have HS:=Lib.hid hs;clear hs;have hiI:(i:Int)<(n:Int):=by have:=HAN.out;omega
   have hiN:i<n:=by have:=HAN.out;omega
   have hkN:k<m:=by have:=HBM.out;omega
   have hkI:(k:Int)<(m:Int):=by have:=HBM.out;omega
   have MC:=MC i k;generalize ordT a.t b.t i k=r at *;have MR:=MR k h2;have DR:=DR k h2;obtain ⟨y,hy⟩:∃ y,y=trD b.t k:=⟨_,rfl⟩
   rw [← hy] at MR DR HS;obtain ⟨gb,kcur,rfl,rgb,k0,k1,k2⟩:=TAt.at (UAt.below HPb.out hB) h2;rw [← hy] at k0 k1 k2;clear hy;have Fgb:∀ X,Row X gb (.cells kcur 55)→(gb<X.heap.size∧X.cell? ⟨gb,k * 3,none⟩=some (.int .i64 (y.s:Int))∧X.cell? ⟨gb,k * 3+1,none⟩=some (.string (S y.c.num))∧X.cell? ⟨gb,k * 3+2,none⟩=some (.string (S (y.c.den:Int)))):=fun X h=>⟨h.1,Row.cell_at h _ k0,Row.cell_at h _ k1,Row.cell_at h _ k2⟩
   have sgb:=Fgb _ rgb;generalize q * y.c=z at *;have ho2:¬ r<0:=by omega
   have ho3:0<r:=ho;clear ho;go_wp2_with fail;refine (MC _ (UAt.below HPa.out hB) (UAt.below HPb.out hB)).mono ?_;rintro e W2 ⟨rfl,h1⟩;replace hown:=OT.later hown h1;have stp:=St6 hB h1 ra rb rp rq ro rgb;clear hB h1 ra sa rb sb rp sp rq sq ro so rgb sgb;obtain ⟨hB,ra,rb,rp,rq,ro,rgb⟩:=stp;have sa:=RF5 ra;have sb:=RF5 rb;have sp:=RF2 rp;have sq:=RF2 rq;have so:=RFz5 ro;have sgb:=Fgb _ rgb;go_wp2_with fail;refine wp_region_items3 16 [.val (.func (.func 116) #[] #[.pointer (some ⟨w.heap.size+1+1+1+1,0,none⟩)]),.val (.pointer (some ⟨w.heap.size+1,2,none⟩)),.val (.slice (some ⟨gb,0,none⟩) m cb),.val (.int .i64 (k:Int)),.val (.pointer (some ⟨gb,k * 3,none⟩)),.val (.pointer (some ⟨gb,k * 3,none⟩)),.val (.int .i64 (y.s:Int)),.val (.agg #[.string (S q.num),.string (S (q.den:Int))]),.val (.pointer (some ⟨w.heap.size+1,2,none⟩)),.val (.slice (some ⟨gb,0,none⟩) m cb),.val (.int .i64 (k:Int)),.val (.pointer (some ⟨gb,k * 3,none⟩)),.val (.pointer (some ⟨gb,k * 3+1,none⟩)),.val (.agg #[.string (S y.c.num),.string (S (y.c.den:Int))]),.val (.agg #[.string (S y.c.num),.string (S (y.c.den:Int))]),.val (.agg #[.string (S z.num),.string (S (z.den:Int))])] [] (by kernel_rfl) (by kernel_rfl) rfl trivial (allItems.cons qi0 (allItems.cons qi0 (allItems.cons (qi1 fun X h=>RF5 (Row.below rb h)) (allItems.cons qi0 (allItems.cons (qif hkI) (allItems.cons qi0 (allItems.cons (qi1 fun X h=>Fgb X (Row.below rgb h)) (allItems.cons (qi1 fun X h=>RF2 (Row.below rq h)) (allItems.cons qi0 (allItems.cons (qi1 fun X h=>RF5 (Row.below rb h)) (allItems.cons qi0 (allItems.cons (qif hkI) (allItems.cons qi0 (allItems.cons (qi1 fun X h=>Fgb X (Row.below rgb h)) (allItems.cons qi0 (allItems.cons (qi2 fun X h=>MR X (he.below (hB.trans (h.mono hB.size)))) trivial)))))))))))))))) ?_
   rintro W h1;replace hown:=OT.later hown h1;have stp:=St6 hB h1 ra rb rp rq ro rgb;clear hB h1 ra sa rb sb rp sp rq sq ro so rgb sgb;obtain ⟨hB,ra,rb,rp,rq,ro,rgb⟩:=stp;have sa:=RF5 ra;have sb:=RF5 rb;have sp:=RF2 rp;have sq:=RF2 rq;have so:=RFz5 ro;have sgb:=Fgb _ rgb;simp only [setItems,List.setIfInBounds_toArray,List.set_cons_succ,List.set_cons_zero,List.take_succ_cons,List.take_zero,List.drop_succ_cons,List.drop_zero];intro _;go_wp2_with fail;have sbo:=ro.1;refine (alin1 (n0:=w.heap.size+1+1+1+1+1) y.s DR (w.heap.size+1+1+1+1) _ _ _ _ po co o hol _ ro hown (by omega) sbo (Nat.le_of_lt sbo) (he.below hB)).mono ?_;clear sa sb sp sq so sgb;rintro e W9 ⟨p',c',ro',hown',rfl,h1⟩;clear sbo;replace hB:=hB.trans (h1.mono (by omega));replace ra:=Row.belowN ra (by omega) h1;replace rb:=Row.belowN rb (by omega) h1;replace rp:=Row.belowN rp (by omega) h1;replace rq:=Row.belowN rq (by omega) h1;clear rgb ro hown h1;have ro:=ro';have hown:=hown';clear ro' hown';have sa:=RF5 ra;have sb:=RF5 rb;have sp:=RF2 rp;have sq:=RF2 rq;have so:=RFz5 ro;go_wp2;go_roundw
   case rel=>exact ⟨i,k+1,p',c',snocA o y.s z,by go_num,by go_num,by omega,by omega,Lib.hid (by rw [HL.out,HS.out,snocA_ahead]),hown,BW,RW8,RW8,RW8,RW8,RW8⟩
   case measure=>simp [RowKit.intOf];omega
  ·have HS:=Lib.hid hs;clear hs;have hiI:¬ (i:Int)<(n:Int):=by have:=HAN.out;omega
   have hkN:k<m:=by have:=HBM.out;omega
   have hkI:(k:Int)<(m:Int):=by have:=HBM.out;omega
   have MC:=MC i k;generalize ordT a.t b.t i k=r at *;have MR:=MR k h2;have DR:=DR k h2;obtain ⟨y,hy⟩:∃ y,y=trD b.t k:=⟨_,rfl⟩
   rw [← hy] at MR DR HS;obtain ⟨gb,kcur,rfl,rgb,k0,k1,k2⟩:=TAt.at (UAt.below HPb.out hB) h2;rw [← hy] at k0 k1 k2;clear hy;have Fgb:∀ X,Row X gb (.cells kcur 55)→(gb<X.heap.size∧X.cell? ⟨gb,k * 3,none⟩=some (.int .i64 (y.s:Int))∧X.cell? ⟨gb,k * 3+1,none⟩=some (.string (S y.c.num))∧X.cell? ⟨gb,k * 3+2,none⟩=some (.string (S (y.c.den:Int)))):=fun X h=>⟨h.1,Row.cell_at h _ k0,Row.cell_at h _ k1,Row.cell_at h _ k2⟩
   have sgb:=Fgb _ rgb;generalize q * y.c=z at *;have ho2:¬ r<0:=by omega
   have ho3:0<r:=ho;clear ho;go_wp2_with fail;refine (MC _ (UAt.below HPa.out hB) (UAt.below HPb.out hB)).mono ?_;rintro e W2 ⟨rfl,h1⟩;replace hown:=OT.later hown h1;have stp:=St6 hB h1 ra rb rp rq ro rgb;clear hB h1 ra sa rb sb rp sp rq sq ro so rgb sgb;obtain ⟨hB,ra,rb,rp,rq,ro,rgb⟩:=stp;have sa:=RF5 ra;have sb:=RF5 rb;have sp:=RF2 rp;have sq:=RF2 rq;have so:=RFz5 ro;have sgb:=Fgb _ rgb;go_wp2_with fail;refine wp_region_items3 16 [.val (.func (.func 116) #[] #[.pointer (some ⟨w.heap.size+1+1+1+1,0,none⟩)]),.val (.pointer (some ⟨w.heap.size+1,2,none⟩)),.val (.slice (some ⟨gb,0,none⟩) m cb),.val (.int .i64 (k:Int)),.val (.pointer (some ⟨gb,k * 3,none⟩)),.val (.pointer (some ⟨gb,k * 3,none⟩)),.val (.int .i64 (y.s:Int)),.val (.agg #[.string (S q.num),.string (S (q.den:Int))]),.val (.pointer (some ⟨w.heap.size+1,2,none⟩)),.val (.slice (some ⟨gb,0,none⟩) m cb),.val (.int .i64 (k:Int)),.val (.pointer (some ⟨gb,k * 3,none⟩)),.val (.pointer (some ⟨gb,k * 3+1,none⟩)),.val (.agg #[.string (S y.c.num),.string (S (y.c.den:Int))]),.val (.agg #[.string (S y.c.num),.string (S (y.c.den:Int))]),.val (.agg #[.string (S z.num),.string (S (z.den:Int))])] [] (by kernel_rfl) (by kernel_rfl) rfl trivial (allItems.cons qi0 (allItems.cons qi0 (allItems.cons (qi1 fun X h=>RF5 (Row.below rb h)) (allItems.cons qi0 (allItems.cons (qif hkI) (allItems.cons qi0 (allItems.cons (qi1 fun X h=>Fgb X (Row.below rgb h)) (allItems.cons (qi1 fun X h=>RF2 (Row.below rq h)) (allItems.cons qi0 (allItems.cons (qi1 fun X h=>RF5 (Row.below rb h)) (allItems.cons qi0 (allItems.cons (qif hkI) (allItems.cons qi0 (allItems.cons (qi1 fun X h=>Fgb X (Row.below rgb h)) (allItems.cons qi0 (allItems.cons (qi2 fun X h=>MR X (he.below (hB.trans (h.mono hB.size)))) trivial)))))))))))))))) ?_
   rintro W h1;replace hown:=OT.later hown h1;have stp:=St6 hB h1 ra rb rp rq ro rgb;clear hB h1 ra sa rb sb rp sp rq sq ro so rgb sgb;obtain ⟨hB,ra,rb,rp,rq,ro,rgb⟩:=stp;have sa:=RF5 ra;have sb:=RF5 rb;have sp:=RF2 rp;have sq:=RF2 rq;have so:=RFz5 ro;have sgb:=Fgb _ rgb;simp only [setItems,List.setIfInBounds_toArray,List.set_cons_succ,List.set_cons_zero,List.take_succ_cons,List.take_zero,List.drop_succ_cons,List.drop_zero];intro _;go_wp2_with fail;have sbo:=ro.1;refine (alin1 (n0:=w.heap.size+1+1+1+1+1) y.s DR (w.heap.size+1+1+1+1) _ _ _ _ po co o hol _ ro hown (by omega) sbo (Nat.le_of_lt sbo) (he.below hB)).mono ?_;clear sa sb sp sq so sgb;rintro e W9 ⟨p',c',ro',hown',rfl,h1⟩;clear sbo;replace hB:=hB.trans (h1.mono (by omega));replace ra:=Row.belowN ra (by omega) h1;replace rb:=Row.belowN rb (by omega) h1;replace rp:=Row.belowN rp (by omega) h1;replace rq:=Row.belowN rq (by omega) h1;clear rgb ro hown h1;have ro:=ro';have hown:=hown';clear ro' hown';have sa:=RF5 ra;have sb:=RF5 rb;have sp:=RF2 rp;have sq:=RF2 rq;have so:=RFz5 ro;go_wp2;go_roundw
   case rel=>exact ⟨i,k+1,p',c',snocA o y.s z,by go_num,by go_num,by omega,by omega,Lib.hid (by rw [HL.out,HS.out,snocA_ahead]),hown,BW,RW8,RW8,RW8,RW8,RW8⟩
   case measure=>simp [RowKit.intOf];omega
  ·have HS:=Lib.hid hs;clear hs;have hiI:(i:Int)<(n:Int):=by have:=HAN.out;omega
   have hiN:i<n:=by have:=HAN.out;omega
   have hkN:k<m:=by have:=HBM.out;omega
   have hkI:(k:Int)<(m:Int):=by have:=HBM.out;omega
   have MC:=MC i k;generalize ordT a.t b.t i k=r at *;have ML:=ML i h1;have DL:=DL i h1;have MR:=MR k h2;have DR:=DR k h2;have MS:=MS i k h1 h2 hss;have DS:=DS i k h1 h2 hss;clear hss;obtain ⟨x,hx⟩:∃ x,x=trD a.t i:=⟨_,rfl⟩
   rw [← hx] at ML DL HS MS DS;obtain ⟨y,hy⟩:∃ y,y=trD b.t k:=⟨_,rfl⟩
   rw [← hy] at MR DR HS MS DS;obtain ⟨ga,gcur,rfl,rga,g0,g1,g2⟩:=TAt.at (UAt.below HPa.out hB) h1;rw [← hx] at g0 g1 g2;clear hx;have Fga:∀ X,Row X ga (.cells gcur 55)→(ga<X.heap.size∧X.cell? ⟨ga,i * 3,none⟩=some (.int .i64 (x.s:Int))∧X.cell? ⟨ga,i * 3+1,none⟩=some (.string (S x.c.num))∧X.cell? ⟨ga,i * 3+2,none⟩=some (.string (S (x.c.den:Int)))):=fun X h=>⟨h.1,Row.cell_at h _ g0,Row.cell_at h _ g1,Row.cell_at h _ g2⟩
   have sga:=Fga _ rga;obtain ⟨gb,kcur,rfl,rgb,k0,k1,k2⟩:=TAt.at (UAt.below HPb.out hB) h2;rw [← hy] at k0 k1 k2;clear hy;have Fgb:∀ X,Row X gb (.cells kcur 55)→(gb<X.heap.size∧X.cell? ⟨gb,k * 3,none⟩=some (.int .i64 (y.s:Int))∧X.cell? ⟨gb,k * 3+1,none⟩=some (.string (S y.c.num))∧X.cell? ⟨gb,k * 3+2,none⟩=some (.string (S (y.c.den:Int)))):=fun X h=>⟨h.1,Row.cell_at h _ k0,Row.cell_at h _ k1,Row.cell_at h _ k2⟩
   have sgb:=Fgb _ rgb;generalize hz:p * x.c+q * y.c=z at *;have HZ:=Lib.hid hz;clear hz;generalize p * x.c=zx at *;generalize q * y.c=zy at *;have ho2:¬ r<0:=by omega
   have ho3:¬ 0<r:=by omega
   clear ho;go_wp2_with fail;refine (MC _ (UAt.below HPa.out hB) (UAt.below HPb.out hB)).mono ?_;rintro e W2 ⟨rfl,h1⟩;replace hown:=OT.later hown h1;have stp:=St7 hB h1 ra rb rp rq ro rga rgb;clear hB h1 ra sa rb sb rp sp rq sq ro so rga sga rgb sgb;obtain ⟨hB,ra,rb,rp,rq,ro,rga,rgb⟩:=stp;have sa:=RF5 ra;have sb:=RF5 rb;have sp:=RF2 rp;have sq:=RF2 rq;have so:=RFz5 ro;have sga:=Fga _ rga;have sgb:=Fgb _ rgb;go_wp2_with fail;refine wp_region_items3 26 [.val (.func (.func 116) #[] #[.pointer (some ⟨w.heap.size+1+1+1+1,0,none⟩)]),.val (.pointer (some ⟨w.heap.size,2,none⟩)),.val (.slice (some ⟨ga,0,none⟩) n ca),.val (.int .i64 (i:Int)),.val (.pointer (some ⟨ga,i * 3,none⟩)),.val (.pointer (some ⟨ga,i * 3,none⟩)),.val (.int .i64 (x.s:Int)),.val (.agg #[.string (S p.num),.string (S (p.den:Int))]),.val (.pointer (some ⟨w.heap.size,2,none⟩)),.val (.slice (some ⟨ga,0,none⟩) n ca),.val (.int .i64 (i:Int)),.val (.pointer (some ⟨ga,i * 3,none⟩)),.val (.pointer (some ⟨ga,i * 3+1,none⟩)),.val (.agg #[.string (S x.c.num),.string (S (x.c.den:Int))]),.val (.agg #[.string (S x.c.num),.string (S (x.c.den:Int))]),.val (.agg #[.string (S zx.num),.string (S (zx.den:Int))]),.val (.agg #[.string (S q.num),.string (S (q.den:Int))]),.val (.pointer (some ⟨w.heap.size+1,2,none⟩)),.val (.slice (some ⟨gb,0,none⟩) m cb),.val (.int .i64 (k:Int)),.val (.pointer (some ⟨gb,k * 3,none⟩)),.val (.pointer (some ⟨gb,k * 3+1,none⟩)),.val (.agg #[.string (S y.c.num),.string (S (y.c.den:Int))]),.val (.agg #[.string (S y.c.num),.string (S (y.c.den:Int))]),.val (.agg #[.string (S zy.num),.string (S (zy.den:Int))]),.val (.agg #[.string (S z.num),.string (S (z.den:Int))])] [] (by kernel_rfl) (by kernel_rfl) rfl trivial (allItems.cons qi0 (allItems.cons qi0 (allItems.cons (qi1 fun X h=>RF5 (Row.below ra h)) (allItems.cons qi0 (allItems.cons (qif hiI) (allItems.cons qi0 (allItems.cons (qi1 fun X h=>Fga X (Row.below rga h)) (allItems.cons (qi1 fun X h=>RF2 (Row.below rp h)) (allItems.cons qi0 (allItems.cons (qi1 fun X h=>RF5 (Row.below ra h)) (allItems.cons qi0 (allItems.cons (qif hiI) (allItems.cons qi0 (allItems.cons (qi1 fun X h=>Fga X (Row.below rga h)) (allItems.cons qi0 (allItems.cons (qi2 fun X h=>ML X (he.below (hB.trans (h.mono hB.size)))) (allItems.cons (qi1 fun X h=>RF2 (Row.below rq h)) (allItems.cons qi0 (allItems.cons (qi1 fun X h=>RF5 (Row.below rb h)) (allItems.cons qi0 (allItems.cons (qif hkI) (allItems.cons qi0 (allItems.cons (qi1 fun X h=>Fgb X (Row.below rgb h)) (allItems.cons qi0 (allItems.cons (qi2 fun X h=>MR X (he.below (hB.trans (h.mono hB.size)))) (allItems.cons (qi2 fun X h=>MS X (he.below (hB.trans (h.mono hB.size)))) trivial)))))))))))))))))))))))))) ?_
   rintro W h1;replace hown:=OT.later hown h1;have stp:=St7 hB h1 ra rb rp rq ro rga rgb;clear hB h1 ra sa rb sb rp sp rq sq ro so rga sga rgb sgb;obtain ⟨hB,ra,rb,rp,rq,ro,rga,rgb⟩:=stp;have sa:=RF5 ra;have sb:=RF5 rb;have sp:=RF2 rp;have sq:=RF2 rq;have so:=RFz5 ro;have sga:=Fga _ rga;have sgb:=Fgb _ rgb;simp only [setItems,List.setIfInBounds_toArray,List.set_cons_succ,List.set_cons_zero,List.take_succ_cons,List.take_zero,List.drop_succ_cons,List.drop_zero];intro _;go_wp2_with fail;have sbo:=ro.1;refine (alin1 (n0:=w.heap.size+1+1+1+1+1) x.s DS (w.heap.size+1+1+1+1) _ _ _ _ po co o hol _ ro hown (by omega) sbo (Nat.le_of_lt sbo) (he.below hB)).mono ?_;clear sa sb sp sq so sga sgb;rintro e W9 ⟨p',c',ro',hown',rfl,h1⟩;clear sbo;replace hB:=hB.trans (h1.mono (by omega));replace ra:=Row.belowN ra (by omega) h1;replace rb:=Row.belowN rb (by omega) h1;replace rp:=Row.belowN rp (by omega) h1;replace rq:=Row.belowN rq (by omega) h1;clear rga rgb ro hown h1;have ro:=ro';have hown:=hown';clear ro' hown';have sa:=RF5 ra;have sb:=RF5 rb;have sp:=RF2 rp;have sq:=RF2 rq;have so:=RFz5 ro;go_wp2;go_roundw
   case rel=>exact ⟨i+1,k+1,p',c',snocA o x.s z,by go_num,by go_num,by omega,by omega,Lib.hid (by rw [HL.out,HS.out,snocA_ahead]),hown,BW,RW8,RW8,RW8,RW8,RW8⟩
   case measure=>simp [RowKit.intOf];omega
end Go.Proofs.YtdikaoahgleffaaGreatDoor
