/-
 drift.At at valid histories: what is known at a time, or that nothing is. drift.At where it hands back an error ahead of its loop; drift.Contradictions. drift.Add: a valid history, with a further valid point. Package affine: a term appended to a row of its own; the closure of linear; compareAt.
-/
import Derived.Deep.RegionHeld3
import Derived.Test.YtnokpldomlmamaaGreatDoorKDPairs
import Derived.Test.YtnokpldomlmamaaGreatDoorKDPlain3
set_option linter.unusedSimpArgs false
set_option linter.unusedVariables false
set_option maxRecDepth 100000
set_option maxHeartbeats 16000000
namespace Go.Proofs.YtnokpldomlmamaaGreatDoor
open Go Go.RowKit Go.Lib Go.Shelf
attribute [local go_sem] Oper.semAt_some normalQ
theorem Row.putObj {W:World} {b D:Nat} {o o':Obj} (h:Row W b o) (hne:b≠D):Row (W.putObj D o') b o:=⟨by simpa using h.1,(World.putObj_heap_other hne).trans h.2⟩
end Go.Proofs.YtnokpldomlmamaaGreatDoor
namespace Go.Proofs.YtnokpldomlmamaaGreatDoor
open Go Go.RowKit Go.Lib Go.Shelf
attribute [local go_sem] Oper.semAt_some normalQ
theorem KpP.append {n₀ n₁:Nat} {T:TypeId} {k n:Nat} {v:Value} {xs:List Value} {A B:World} (h:A.ownsRow n₀ T k v n xs) (hg:A.grownBy B v.ownBlock) (h1:T ≠ 26) (h2:T ≠ 32) (hn:n₁≤n₀) (hs:n₁≤A.heap.size):KpP n₁ A B:=by
 rcases h.2 with ⟨e1,_⟩ | ⟨g,cap,cur,e1,hb,e2,_⟩
 ·rw [e1] at hg
  exact ⟨(Below.refl _ _).grown hg hs (fun k e=>by simp [Value.ownBlock] at e),fun k _ _ hk _=>hg.block k (Array.getElem?_eq_some_iff.1 hk).1 (fun e=>by simp [Value.ownBlock] at e)⟩
 ·rw [e1] at hg
  exact KpP.grown (b:=g) hg ⟨(Array.getElem?_eq_some_iff.1 e2).1,e2⟩ h1 h2 (by omega) hs
theorem own_other {n₀:Nat} {T T':TypeId} {k n b:Nat} {v:Value} {xs:List Value} {vs:Array Value} {A:World} (h:A.ownsRow n₀ T k v n xs) (r:Row A b (.cells vs T')) (hne:T'≠T) (i:Nat) (u:Value):(A.setCell ⟨b,i,none⟩ u).ownsRow n₀ T k v n xs :=
 ownsRow_setCell_other h (a:=⟨b,i,none⟩) (fun e=>by
  rcases h.2 with ⟨e1,_⟩ | ⟨g,cap,cur,e1,hb,e2,_⟩
  ·rw [e1] at e;simp [Value.ownBlock] at e
  ·rw [e1] at e
   simp [Value.ownBlock] at e
   subst e
   have:=r.2.symm.trans e2
   simp at this
   exact hne this.2) u
end Go.Proofs.YtnokpldomlmamaaGreatDoor
namespace Go.Proofs.YtnokpldomlmamaaGreatDoor
open Go Go.RowKit Go.Lib Go.Shelf
theorem own_later {w w':World} {base:Nat} {e:TypeId} {size:Nat} {v:Value} {n:Nat} {xs:List Value} (h:w.ownsRow base e size v n xs) (hB:Below w.heap.size w w'):w'.ownsRow base e size v n xs :=
 ⟨h.1,h.2.elim .inl fun ⟨g,cap,cur,e,h0,hg,r⟩ => .inr ⟨g,cap,cur,e,h0,(hB.block g (Array.getElem?_eq_some_iff.1 hg).1).trans hg,r⟩⟩
theorem own_row_ne {n₀ n b:Nat} {v:Value} {xs:List Value} {T T':TypeId} {k:Nat} {vs:Array Value} {A B:World} (h:A.ownsRow n₀ T k v n xs) (hg:A.grownBy B v.ownBlock) (r:Row A b (.cells vs T')) (hb:b<n₀):Row B b (.cells vs T') :=
 ⟨Nat.lt_of_lt_of_le r.1 hg.size,(hg.block b r.1 fun e=>by have:=h.lt b e.symm;omega).trans r.2⟩
end Go.Proofs.YtnokpldomlmamaaGreatDoor
namespace Go.Proofs.YtnokpldomlmamaaGreatDoor
open Go Go.RowKit Go.Lib Go.Shelf
attribute [local go_sem] normalQ
theorem termInfo:(Tryz.prog.info? 62).map (fun i=>(i.zero,i.size,i.bytes))=some (some (.agg #[.int .i64 0,.string ⟨#[]⟩,.string ⟨#[]⟩]),3,40):=by kernel_rfl
/-- A row of terms of its own. -/
abbrev OT (W:World) (n0:Nat) (p:Option Addr) (c:Nat) (l:List Trm):Prop:=W.ownsRow n0 62 3 (.slice p l.length c) l.length (uCells (raws l))
theorem OT.tat {W:World} {n0:Nat} {p:Option Addr} {c:Nat} {l:List Trm} (h:OT W n0 p c l):TAt 62 W p l:=own_uat h (raws_length l)
theorem OT.nil (W:World) (n0:Nat):OT W n0 none 0 []:=⟨rfl,.inl ⟨rfl,rfl⟩⟩
theorem OT.later {W W':World} {n0:Nat} {p:Option Addr} {c:Nat} {l:List Trm} (h:OT W n0 p c l) (hB:Below W.heap.size W W'):OT W' n0 p c l:=own_later h hB
theorem uCells_snoc (l:List Trm) (t:Trm):uCells (raws (l ++ [t]))=uCells (raws l) ++ [.int .i64 (t.s:Int),.string (S t.c.num),.string (S (t.c.den:Int))]:=by
 rw [raws_app,uCells_app];rfl
/-- The builtin append of one term that lies in a block. -/
theorem wpl_append_term {ops:Array Oper} {rest:List Oper} {o:Oper} {a:Act} {Q:Exit→Act→World→Prop} {w:World} (hgd:o.guard=none) (s x:Operand)
  (ho:o.op = .call { callee := .builtin .append,args:=#[s,x],argTypes:=#[56, 56] }) (n0:Nat) (p:Option Addr) (c:Nat) (l:List Trm) (t:Trm) (hs:a.eval s = .slice p l.length c) (hown:OT w n0 p c l)
  (B:Nat) (hx:a.eval x = .slice (some ⟨B,0,none⟩) 1 1) (hr:Row w B (.cells #[.int .i64 (t.s:Int),.string (S t.c.num),.string (S (t.c.den:Int))] 62)) (hl:l.length≤100000) (hbase:n0≤w.heap.size)
  (h:∀ p' c' w',OT w' n0 p' c' (l ++ [t])→w.grownBy w' (Value.slice p l.length c).ownBlock→wpList Tryz.prog ops Q rest (a.put o.dst (.slice p' (l ++ [t]).length c')) w'):wpList Tryz.prog ops Q (o :: rest) a w:=by
 obtain ⟨i0,hi,hz0,hz1,hz2⟩:=info_parts termInfo
 refine wpList_append_reads _ hgd s x 56 ho n0 62 i0 (.agg #[.int .i64 0,.string ⟨#[]⟩,.string ⟨#[]⟩]) 3 40 Tryz.underlying56 hi hz0 hz1 hz2 rfl (by decide) (.slice p l.length c) l.length (uCells (raws l)) hs hown (B+1) (some ⟨B,0,none⟩) 1 1
  [.int .i64 (t.s:Int),.string (S t.c.num),.string (S (t.c.den:Int))] hx ?_ ?_ (by unfold maxLen;omega) (by omega) hbase ?_
 ·refine ⟨rfl,fun _=>⟨_,rfl,Nat.lt_succ_self _,fun j u hu => ?_⟩⟩
  have:=Row.cell_lit' hr j (v:=u) (by rw [← hu];simp)
  rcases Nat.eq_zero_or_pos j with rfl | hj
  ·simpa [Addr.add] using this
  ·simpa [Addr.add,Nat.ne_of_gt hj] using this
 ·intro u hu
  simp only [List.mem_cons,List.not_mem_nil,or_false] at hu
  rcases hu with rfl | rfl | rfl <;> rfl
 ·intro v' w' hown' hg
  obtain ⟨p',c',rfl⟩:=own_slice hown'
  have hlen:(l ++ [t]).length=l.length+1:=by simp
  rw [← uCells_snoc] at hown'
  have ho2:OT w' n0 p' c' (l ++ [t]):=by unfold OT;rw [hlen];exact hown'
  have:=h p' c' w' ho2 hg
  rw [hlen] at this
  exact this
/-- Terms, and one more that is not zero. -/
def snocA (l:List Trm) (s:Nat) (c:Rat):List Trm:=if c=0 then l else l ++ [⟨s,c⟩]
def AppRes (bo n0:Nat) (z1 z2 z3 z4:Value) (l:List Trm) (w:World) (e:Ending) (w':World):Prop :=
 ∃ p c,Row w' bo (.cells #[z1,z2,.slice p l.length c,z3,z4] 58)∧OT w' n0 p c l∧e = .returned (.tuple #[])∧Below bo w w'
theorem alin1_nz {n0:Nat} (s:Nat) {q:Rat} (hq:QDig 200 q) (h0:q≠0) (bo:Nat) (z1 z2 z3 z4:Value) (p:Option Addr) (c:Nat) (l:List Trm) (hl:l.length≤100000) (w:World) (ro:Row w bo (.cells #[z1,z2,.slice p l.length c,z3,z4] 58)) (hown:OT w n0 p c l) (hbo:bo<n0) (hn0:n0≤w.heap.size) (hbs:bo≤w.heap.size) (he:Env w):Calls Tryz.prog 156 #[.int .i64 (s:Int),Q q,.pointer (some ⟨bo,0,none⟩)] w (AppRes bo n0 z1 z2 z3 z4 (l ++ [⟨s,q⟩]) w):=by
 have hB:Below w.heap.size w w:=Below.refl _ _
 have M:=fun W (H:Env W)=>nsign hq W H
 have hg:¬ cmpQ q 0=0:=fun e=>h0 (cmpQ_eq.1 e)
 unfold CmpOk at M
 unfold AppRes
 generalize hgg:cmpQ q 0=g at *
 unfold Q at *
 have hge:(g == 0)=false:=beq_eq_false_iff_ne.2 hg
 clear hgg hq
 have so:=RFz5 ro
 go_enter Tryz.func156, Tryz.ntmps156
 go_wp2_with fail
 have do_c:bo<w.heap.size:=by omega
 have sB:=hB.size
 refine world_cut (fun X=>Below w.heap.size w X∧Row X bo (.cells #[z1,z2,.slice p l.length c,z3,z4] 58)∧Row X w.heap.size (.cells #[.string (S q.num),.string (S (q.den:Int))] 112)) ⟨BW,RW8,RW8⟩ ?_
 clear ro
 clear so
 clear hB sB
 rintro V1 ⟨hB,ro,rc⟩
 have so:=RFz5 ro
 have sc:=RF2 rc
 refine (M _ (he.below hB)).mono ?_
 rintro e W2 ⟨rfl,h1⟩
 have stp:=St2 hB h1 ro rc;clear hB h1 ro so rc sc
 obtain ⟨hB,ro,rc⟩:=stp
 have so:=RFz5 ro
 have sc:=RF2 rc
 go_wp2_with (at_builtin;refine wpl_append_term rfl (.tmp 9) (.tmp 14) rfl n0 p c l ⟨s,q⟩ rfl (World.ownsRow.alloc (OT.later hown hB) _) _ rfl (row_new _ _) hl (by simp;have:=hB.size;omega) ?_;intro p' c' W7 hown' hg';replace ro:=own_row_ne (World.ownsRow.alloc (OT.later hown hB) _) hg' (Row.alloc ro _) hbo;have hB7:=Below.grown ((hB.mono hbs).alloc (by have:=hB.size;omega) _) hg' (by simp;have:=hB.size;omega) (fun k hk=>by have:=(World.ownsRow.lt (OT.later hown hB) k hk).1;omega);clear hg';have so:=RFz5 ro)
 go_end0
 exact ⟨p',c',(by simp only [List.length_append,List.length_cons,List.length_nil,Nat.zero_add];exact RW8),own_other hown' ro form_ne 2 _,rfl,Below.setCell hB7 (p:=⟨bo,2,none⟩) (Nat.le_refl _) _⟩
theorem alin1_z {n0:Nat} (s:Nat) {q:Rat} (hq:QDig 200 q) (h0:q=0) (bo:Nat) (z1 z2 z3 z4:Value) (p:Option Addr) (c:Nat) (l:List Trm) (hl:l.length≤100000) (w:World) (ro:Row w bo (.cells #[z1,z2,.slice p l.length c,z3,z4] 58)) (hown:OT w n0 p c l) (hbo:bo<n0) (hn0:n0≤w.heap.size) (hbs:bo≤w.heap.size) (he:Env w):Calls Tryz.prog 156 #[.int .i64 (s:Int),Q q,.pointer (some ⟨bo,0,none⟩)] w (AppRes bo n0 z1 z2 z3 z4 l w):=by
 have hB:Below w.heap.size w w:=Below.refl _ _
 have M:=fun W (H:Env W)=>nsign hq W H
 have hg:cmpQ q 0=0:=cmpQ_eq.2 h0
 unfold CmpOk at M
 unfold AppRes
 generalize hgg:cmpQ q 0=g at *
 unfold Q at *
 subst hg
 clear hgg hq h0
 have so:=RFz5 ro
 go_enter Tryz.func156, Tryz.ntmps156
 go_wp2_with fail
 have do_c:bo<w.heap.size:=by omega
 have sB:=hB.size
 refine world_cut (fun X=>Below w.heap.size w X∧Row X bo (.cells #[z1,z2,.slice p l.length c,z3,z4] 58)∧Row X w.heap.size (.cells #[.string (S q.num),.string (S (q.den:Int))] 112)) ⟨BW,RW8,RW8⟩ ?_
 clear ro
 clear so
 clear hB sB
 rintro V1 ⟨hB,ro,rc⟩
 have so:=RFz5 ro
 have sc:=RF2 rc
 refine (M _ (he.below hB)).mono ?_
 rintro e W2 ⟨rfl,h1⟩
 have stp:=St2 hB h1 ro rc;clear hB h1 ro so rc sc
 obtain ⟨hB,ro,rc⟩:=stp
 have so:=RFz5 ro
 have sc:=RF2 rc
 go_wp2
 go_end0
 exact ⟨p,c,RW8,OT.later hown hB,rfl,hB.mono hbs⟩
theorem alin1 {n0:Nat} (s:Nat) {q:Rat} (hq:QDig 200 q) (bo:Nat) (z1 z2 z3 z4:Value) (p:Option Addr) (c:Nat) (l:List Trm) (hl:l.length≤100000) (w:World) (ro:Row w bo (.cells #[z1,z2,.slice p l.length c,z3,z4] 58)) (hown:OT w n0 p c l) (hbo:bo<n0) (hn0:n0≤w.heap.size) (hbs:bo≤w.heap.size) (he:Env w):Calls Tryz.prog 156 #[.int .i64 (s:Int),Q q,.pointer (some ⟨bo,0,none⟩)] w (AppRes bo n0 z1 z2 z3 z4 (snocA l s q) w):=by
 unfold snocA
 split
 ·rename_i h;exact alin1_z s hq h bo z1 z2 z3 z4 p c l hl w ro hown hbo hn0 hbs he
 ·rename_i h;exact alin1_nz s hq h bo z1 z2 z3 z4 p c l hl w ro hown hbo hn0 hbs he
/-- How the sources of two terms compare; a list that has ended comes last. -/
def ordT (a b:List Trm) (i k:Nat):Int:=if a.length≤i then 1 else if b.length≤k then -1 else compareInt ((trD a i).s:Int) ((trD b k).s:Int)
theorem acompare (x y:Int) (w:World):Calls Tryz.prog 164 #[.int .i64 x,.int .i64 y] w (IntIs (compareInt x y) w) :=
 (Tryz.cmp_Compare_int x y w).mono fun e w' h=>⟨h.1,h.2 ▸ Below.refl _ _⟩
theorem acmp_0 {a b:List Trm} (i j n m ca cb:Nat) (pa pb:Option Addr) (han:a.length=n) (hbm:b.length=m) (h1:a.length≤i) (w:World):Calls Tryz.prog 157 #[.slice pa n ca,.int .i64 (i:Int),.slice pb m cb,.int .i64 (j:Int)] w (IntIs (ordT a b i j) w):=by
 have hB:Below w.heap.size w w:=Below.refl _ _
 unfold ordT IntIs
 rw [if_pos h1]
 have h1I:(n:Int)≤(i:Int):=by omega
 clear h1
 go_enter Tryz.func157, Tryz.ntmps157
 go_wp2
 go_ret
 exact ⟨rfl,hB⟩
theorem acmp_1 {a b:List Trm} (i j n m ca cb:Nat) (pa pb:Option Addr) (han:a.length=n) (hbm:b.length=m) (h1:¬ a.length≤i) (h2:b.length≤j) (w:World):Calls Tryz.prog 157 #[.slice pa n ca,.int .i64 (i:Int),.slice pb m cb,.int .i64 (j:Int)] w (IntIs (ordT a b i j) w):=by
 have hB:Below w.heap.size w w:=Below.refl _ _
 unfold ordT IntIs
 rw [if_neg h1]
 have h1I:¬ (n:Int)≤(i:Int):=by omega
 rw [if_pos h2]
 have h2I:(m:Int)≤(j:Int):=by omega
 go_enter Tryz.func157, Tryz.ntmps157
 go_wp2
 go_ret
 exact ⟨rfl,hB⟩
theorem acmp_2 {a b:List Trm} (i j n m ca cb:Nat) (pa pb:Option Addr) (han:a.length=n) (hbm:b.length=m) (h1:¬ a.length≤i) (h2:¬ b.length≤j) (w:World) (hpa:TAt 62 w pa a) (hpb:TAt 62 w pb b):Calls Tryz.prog 157 #[.slice pa n ca,.int .i64 (i:Int),.slice pb m cb,.int .i64 (j:Int)] w (IntIs (ordT a b i j) w):=by
 have hB:Below w.heap.size w w:=Below.refl _ _
 unfold ordT IntIs
 rw [if_neg h1]
 have h1I:¬ (n:Int)≤(i:Int):=by omega
 rw [if_neg h2]
 have h2I:¬ (m:Int)≤(j:Int):=by omega
 have hl1:i<a.length:=by omega
 have hl2:j<b.length:=by omega
 have HPa:=Lib.hid hpa
 have HPb:=Lib.hid hpb
 have M:=fun W=>acompare ((trD a i).s:Int) ((trD b j).s:Int) W
 unfold IntIs at M
 generalize compareInt ((trD a i).s:Int) ((trD b j).s:Int)=r at *
 obtain ⟨x,hx⟩:∃ x,x=trD a i:=⟨_,rfl⟩
 obtain ⟨y,hy⟩:∃ y,y=trD b j:=⟨_,rfl⟩
 rw [← hx,← hy] at M
 have hiI:(i:Int)<(n:Int):=by omega
 have hjI:(j:Int)<(m:Int):=by omega
 clear h1 h2 hpa hpb
 obtain ⟨g1,gcur,rfl,rg1,g0,g1c,g2⟩:=TAt.at (UAt.below HPa.out hB) hl1
 rw [← hx] at g0 g1c g2
 clear hx
 have Fg1:∀ X,Row X g1 (.cells gcur 62)→(g1<X.heap.size∧X.cell? ⟨g1,i * 3,none⟩=some (.int .i64 (x.s:Int))∧X.cell? ⟨g1,i * 3+1,none⟩=some (.string (S x.c.num))∧X.cell? ⟨g1,i * 3+2,none⟩=some (.string (S (x.c.den:Int)))):=fun X h=>⟨h.1,Row.cell_at h _ g0,Row.cell_at h _ g1c,Row.cell_at h _ g2⟩
 have sg1:=Fg1 _ rg1
 obtain ⟨g2b,kcur,rfl,rg2b,k0,k1,k2⟩:=TAt.at (UAt.below HPb.out hB) hl2
 rw [← hy] at k0 k1 k2
 clear hy
 have Fg2b:∀ X,Row X g2b (.cells kcur 62)→(g2b<X.heap.size∧X.cell? ⟨g2b,j * 3,none⟩=some (.int .i64 (y.s:Int))∧X.cell? ⟨g2b,j * 3+1,none⟩=some (.string (S y.c.num))∧X.cell? ⟨g2b,j * 3+2,none⟩=some (.string (S (y.c.den:Int)))):=fun X h=>⟨h.1,Row.cell_at h _ k0,Row.cell_at h _ k1,Row.cell_at h _ k2⟩
 have sg2b:=Fg2b _ rg2b
 clear hl1 hl2 han hbm
 go_enter Tryz.func157, Tryz.ntmps157
 go_wp2_with fail
 refine wp_region_items3 10 [.val (.slice (some ⟨g1,0,none⟩) n ca),.val (.int .i64 (i:Int)),.val (.pointer (some ⟨g1,i * 3,none⟩)),.val (.pointer (some ⟨g1,i * 3,none⟩)),.val (.int .i64 (x.s:Int)),.val (.slice (some ⟨g2b,0,none⟩) m cb),.val (.int .i64 (j:Int)),.val (.pointer (some ⟨g2b,j * 3,none⟩)),.val (.pointer (some ⟨g2b,j * 3,none⟩)),.val (.int .i64 (y.s:Int))] [] (by kernel_rfl) (by kernel_rfl) rfl trivial (allItems.cons qi0 (allItems.cons qi0 (allItems.cons (qif hiI) (allItems.cons qi0 (allItems.cons (qi1 fun X h=>Fg1 X (Row.below rg1 h)) (allItems.cons qi0 (allItems.cons qi0 (allItems.cons (qif hjI) (allItems.cons qi0 (allItems.cons (qi1 fun X h=>Fg2b X (Row.below rg2b h)) trivial)))))))))) ?_
 rintro W h1
 have stp:=St2 hB h1 rg1 rg2b;clear hB h1 rg1 sg1 rg2b sg2b
 obtain ⟨hB,rg1,rg2b⟩:=stp
 have sg1:=Fg1 _ rg1
 have sg2b:=Fg2b _ rg2b
 simp only [setItems,List.setIfInBounds_toArray,List.set_cons_succ,List.set_cons_zero,List.take_succ_cons,List.take_zero,List.drop_succ_cons,List.drop_zero]
 intro _
 go_wp2_with fail
 refine (M _).mono ?_
 rintro e W1 ⟨rfl,h1⟩
 have stp:=St2 hB h1 rg1 rg2b;clear hB h1 rg1 sg1 rg2b sg2b
 obtain ⟨hB,rg1,rg2b⟩:=stp
 have sg1:=Fg1 _ rg1
 have sg2b:=Fg2b _ rg2b
 go_wp2
 go_ret
 exact ⟨rfl,hB⟩
theorem acmp {a b:List Trm} (i j n m ca cb:Nat) (pa pb:Option Addr) (han:a.length=n) (hbm:b.length=m) (w:World) (hpa:TAt 62 w pa a) (hpb:TAt 62 w pb b):Calls Tryz.prog 157 #[.slice pa n ca,.int .i64 (i:Int),.slice pb m cb,.int .i64 (j:Int)] w (IntIs (ordT a b i j) w):=by
 by_cases h1:a.length≤i
 ·exact acmp_0 i j n m ca cb pa pb han hbm h1 w
 ·by_cases h2:b.length≤j
  ·exact acmp_1 i j n m ca cb pa pb han hbm h1 h2 w
  ·exact acmp_2 i j n m ca cb pa pb han hbm h1 h2 w hpa hpb
end Go.Proofs.YtnokpldomlmamaaGreatDoor
