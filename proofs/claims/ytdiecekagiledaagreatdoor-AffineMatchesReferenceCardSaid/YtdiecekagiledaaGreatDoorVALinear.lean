/- drift.At at valid histories: what is known at a time, or that nothing is. -/
import Derived.Deep.DeepCutAuto
import Derived.Laws.CopyOwn
import Derived.Shelf.Spec.SlicesInsertGrow
import Derived.Test.YtdiecekagiledaaGreatDoorVARange
import Derived.Test.YtdiecekagiledaaGreatDoorVDPlain3
set_option linter.unusedSimpArgs false
set_option linter.unusedVariables false
set_option maxRecDepth 100000
set_option maxHeartbeats 16000000
namespace Go.Proofs.YtdiecekagiledaaGreatDoor
open Go Go.RowKit Go.Lib Go.Shelf
attribute [local go_sem] Oper.semAt_some yg
theorem Row.putObj{W:World}{b D:Nat}{o o':Obj}(h:Row W b o)(hne:b≠D):Row (W.putObj D o') b o:=⟨by simpa using h.1,(World.putObj_heap_other hne).trans h.2⟩
theorem kaa{n₀:Nat}{T T':TypeId}{k n b:Nat}{v:Value}{xs:List Value}{vs:Array Value}{A:World}(h:A.ownsRow n₀ T k v n xs)(r:Row A b (.cells vs T'))(hne:T'≠T)(i:Nat)(u:Value):(A.setCell ⟨b,i,none⟩ u).ownsRow n₀ T k v n xs :=
 ownsRow_setCell_other h (a:=⟨b,i,none⟩) (fun e=>by
  rcases h.2 with⟨e1,_⟩|⟨g,cap,cur,e1,hb,e2,_⟩
  ·rw[e1]at e;simp[Value.ownBlock]at e
  ·rw[e1]at e;simp[Value.ownBlock]at e;subst e;have:=r.2.symm.trans e2;simp at this;exact hne this.2) u
end Go.Proofs.YtdiecekagiledaaGreatDoor
namespace Go.Proofs.YtdiecekagiledaaGreatDoor
open Go Go.RowKit Go.Lib Go.Shelf
theorem jN{w w':World}{base:Nat}{e:TypeId}{size:Nat}{v:Value}{n:Nat}{xs:List Value}(h:w.ownsRow base e size v n xs)(hB:Aa w w'):w'.ownsRow base e size v n xs :=
 ⟨h.1,h.2.elim .inl fun⟨g,cap,cur,e,h0,hg,r⟩=>.inr ⟨g,cap,cur,e,h0,(hB.block g (Ag.1 hg).1).trans hg,r⟩⟩
theorem zj{n₀ n b:Nat}{v:Value}{xs:List Value}{T T':TypeId}{k:Nat}{vs:Array Value}{A B:World}(h:A.ownsRow n₀ T k v n xs)(hg:A.grownBy B v.ownBlock)(r:Row A b (.cells vs T'))(hb:b<n₀):Row B b (.cells vs T') :=
 ⟨AG r.1 hg.size,(hg.block b r.1 fun e=>by have:=h.lt b e.symm;omega).trans r.2⟩
end Go.Proofs.YtdiecekagiledaaGreatDoor
namespace Go.Proofs.YtdiecekagiledaaGreatDoor
open Go Go.RowKit Go.Lib Go.Shelf Go.Proofs.Tryz
attribute [local go_sem] yg
theorem qao:(prog.info? 34).map (fun i=>(i.zero,i.size,i.bytes))=some (some (.agg #[.int .i64 0,.string ⟨#[]⟩,.string ⟨#[]⟩]),3,40):=by kernel_rfl
abbrev OT(W:World)(n0:Nat)(p:En)(c:Nat)(l:List Trm):Prop:=W.ownsRow n0 34 3 (.slice p l.length c) l.length (zm (kN l))
theorem OT.tat{W:World}{n0:Nat}{p:En}{c:Nat}{l:List Trm}(h:OT W n0 p c l):TAt 34 W p l:=yaG h (kf l)
theorem OT.nil(W:World)(n0:Nat):OT W n0 none 0 []:=⟨rfl,.inl ⟨rfl,rfl⟩⟩
theorem OT.later{W W':World}{n0:Nat}{p:En}{c:Nat}{l:List Trm}(h:OT W n0 p c l)(hB:Below W.heap.size W W'):OT W' n0 p c l:=jN h hB
abbrev BV:=@OT.later
theorem zbo(l:List Trm)(t:Trm):zm (kN (l++[t]))=zm (kN l)++[.int .i64 (t.s:Int),.string (S t.c.num),.string (S (t.c.den:Int))]:=by
 rw[qaX,qM];rfl
theorem kF{ops:Array Oper}{rest:List Oper}{o:Oper}{a:Act}{Q:Exit->Act->World->Prop}{w:World}(hgd:o.guard=none)(s x:Operand)
  (ho:o.op=.call { callee:=.builtin .append,args:=#[s,x],argTypes:=#[24,24] }) (n0:Nat) (p:En) (c:Nat) (l:List Trm) (t:Trm) (hs:a.eval s=.slice p l.length c) (hown:OT w n0 p c l)
  (B:Nat) (hx:a.eval x=.slice (some ⟨B,0,none⟩) 1 1) (hr:Row w B (oT (t.s:Int) t.c)) (hl:l.length<=200000) (hbase:n0<=w.heap.size)
  (h:∀ p' c' w',OT w' n0 p' c' (l++[t])->w.grownBy w' (Value.slice p l.length c).ownBlock->wpList prog ops Q rest (a.put o.dst (.slice p' (l++[t]).length c')) w'):wpList prog ops Q (o :: rest) a w:=by
 obtain⟨i0,hi,hz0,hz1,hz2⟩:=info_parts qao;refine jr _ hgd s x 24 ho n0 34 i0 (.agg #[.int .i64 0,.string ⟨#[]⟩,.string ⟨#[]⟩]) 3 40 underlying24 hi hz0 hz1 hz2 rfl dd (.slice p l.length c) l.length (zm (kN l)) hs hown (B+1) (some ⟨B,0,none⟩) 1 1
  [.int .i64 (t.s:Int),.string (S t.c.num),.string (S (t.c.den:Int))] hx ?_ ?_ (by unfold maxLen;omega) oo hbase ?_
 ·refine⟨rfl,fun _=>⟨_,rfl,Nat.lt_succ_self _,fun j u hu => ?_⟩⟩;have:=Row.cell_lit' hr j (v:=u) (by rw[<- hu];simp);rcases Az j with rfl|hj
  ·simpa[Addr.add]using this
  ·simpa[Addr.add,Nat.ne_of_gt hj]using this
 ·intro u hu;simp only[Bd,Bf,or_false]at hu;rcases hu with rfl|rfl|rfl<;>rfl
 ·intro v' w' hown' hg;obtain⟨p',c',rfl⟩:=zh hown';have hlen:(l++[t]).length=l.length+1:=by simp
  rw[<- zbo]at hown';have ho2:OT w' n0 p' c' (l++[t]):=by unfold OT;rw[hlen];exact hown'
  have:=h p' c' w' ho2 hg;rw[hlen]at this;exact this
def qba(l:List Trm)(s:Nat)(c:Rat):List Trm:=if c=0 then l else l++[⟨s,c⟩]
def qa0(bo n0:Nat)(z1 z2 z3 z4:Value)(l:List Trm)(w:World)(e:Ending)(w':World):Prop :=
 ∃ p c,Row w' bo (.cells #[z1,z2,.slice p l.length c,z3,z4] 26)/\OT w' n0 p c l/\e=.returned (.tuple #[])/\Below bo w w'
theorem qcc{n0:Nat}(s:Nat){q:Rat}(hq:QDig 200 q)(h0:q≠0)(bo:Nat)(z1 z2 z3 z4:Value)(p:En)(c:Nat)(l:List Trm)(hl:l.length<=200000)(w:World)(ro:Row w bo (.cells #[z1,z2,.slice p l.length c,z3,z4] 26))(hown:OT w n0 p c l)(hbo:bo<n0)(hn0:n0<=w.heap.size)(hbs:bo<=w.heap.size)(he:Env w):Calls prog 118 #[.int .i64 (s:Int),Q q,.pointer (some ⟨bo,0,none⟩)] w (qa0 bo n0 z1 z2 z3 z4 (l++[⟨s,q⟩]) w):=by
 have hB:=Ab w;have M:=fun W (H:Env W)=>zaG hq W H
 have hg:¬ zE q 0=0:=fun e=>h0 (jbe.1 e)
 unfold jB at M;unfold qa0;generalize hgg:zE q 0=g at *;unfold Q at *;have hge:(g==0)=false:=beq_eq_false_iff_ne.2 hg;clear hgg hq;have so:=kd ro;go_enter func118,ntmps118;go_wp2_with fail;have do_c:bo<w.heap.size:=oo
 have sB:=hB.size;refine za (kp1 hB ro fun X=>Row X w.heap.size (oN q)) ⟨BW,RW8,RW8⟩ ?_;unfold kp1;clear ro so hB sB;rintro V1⟨hB,ro,rc⟩;have so:=kd ro;have sc:=RF2 rc;refine(M _ (he.below hB)).mono ?_;rintro e W2⟨rfl,h1⟩;have stp:=St2 hB h1 ro rc;clear hB h1 ro so rc sc;obtain⟨hB,ro,rc⟩:=stp;have so:=kd ro;have sc:=RF2 rc;go_wp2_with (at_builtin;refine kF rfl (.tmp 9) (.tmp 14) rfl n0 p c l ⟨s,q⟩ rfl (World.ownsRow.alloc (BV hown hB) _) _ rfl (qp _ _) hl (by simp;have:=hB.size;omega) ?_;intro p' c' W7 hown' hg';replace ro:=zj (World.ownsRow.alloc (BV hown hB) _) hg' (AN ro _) hbo;have hB7:=Below.grown ((hB.mono hbs).alloc (by have:=hB.size;omega) _) hg' (by simp;have:=hB.size;omega) (fun k hk=>by have:=(World.ownsRow.lt (BV hown hB) k hk).1;omega);clear hg';have so:=kd ro);go_end0;exact⟨p',c',(by simp only[AQ,AE,Bh,Bj];exact RW8),kaa hown' ro yar 2 _,rfl,Below.setCell hB7 (p:=⟨bo,2,none⟩) (Am _) _⟩
theorem zcy{n0:Nat}(s:Nat){q:Rat}(hq:QDig 200 q)(h0:q=0)(bo:Nat)(z1 z2 z3 z4:Value)(p:En)(c:Nat)(l:List Trm)(hl:l.length<=200000)(w:World)(ro:Row w bo (.cells #[z1,z2,.slice p l.length c,z3,z4] 26))(hown:OT w n0 p c l)(hbo:bo<n0)(hn0:n0<=w.heap.size)(hbs:bo<=w.heap.size)(he:Env w):Calls prog 118 #[.int .i64 (s:Int),Q q,.pointer (some ⟨bo,0,none⟩)] w (qa0 bo n0 z1 z2 z3 z4 l w):=by
 have hB:=Ab w;have M:=fun W (H:Env W)=>zaG hq W H
 have hg:zE q 0=0:=jbe.2 h0;unfold jB at M;unfold qa0;generalize hgg:zE q 0=g at *;unfold Q at *;subst hg;clear hgg hq h0;have so:=kd ro;go_enter func118,ntmps118;go_wp2_with fail;have do_c:bo<w.heap.size:=oo
 have sB:=hB.size;refine za (kp1 hB ro fun X=>Row X w.heap.size (oN q)) ⟨BW,RW8,RW8⟩ ?_;unfold kp1;clear ro so hB sB;rintro V1⟨hB,ro,rc⟩;have so:=kd ro;have sc:=RF2 rc;refine(M _ (he.below hB)).mono ?_;rintro e W2⟨rfl,h1⟩;have stp:=St2 hB h1 ro rc;clear hB h1 ro so rc sc;obtain⟨hB,ro,rc⟩:=stp;have so:=kd ro;have sc:=RF2 rc;go_wp2;go_end0;exact⟨p,c,RW8,BV hown hB,rfl,hB.mono hbs⟩
theorem zcc{n0:Nat}(s:Nat){q:Rat}(hq:QDig 200 q)(bo:Nat)(z1 z2 z3 z4:Value)(p:En)(c:Nat)(l:List Trm)(hl:l.length<=200000)(w:World)(ro:Row w bo (.cells #[z1,z2,.slice p l.length c,z3,z4] 26))(hown:OT w n0 p c l)(hbo:bo<n0)(hn0:n0<=w.heap.size)(hbs:bo<=w.heap.size)(he:Env w):Calls prog 118 #[.int .i64 (s:Int),Q q,.pointer (some ⟨bo,0,none⟩)] w (qa0 bo n0 z1 z2 z3 z4 (qba l s q) w):=by
 unfold qba;split
 ·rename_i h;exact zcy s hq h bo z1 z2 z3 z4 p c l hl w ro hown hbo hn0 hbs he
 ·rename_i h;exact qcc s hq h bo z1 z2 z3 z4 p c l hl w ro hown hbo hn0 hbs he
def qaW(a b:List Trm)(i k:Nat):Int:=if a.length<=i then 1 else if b.length<=k then -1 else compareInt ((trD a i).s:Int) ((trD b k).s:Int)
theorem ybp(x y:Int)(w:World):Calls prog 109 #[.int .i64 x,.int .i64 y] w (kM (compareInt x y) w) :=
 (Tryz.cmp_Compare_int x y w).mono fun e w' h=>⟨h.1,h.2 ▸ Au _ _⟩
theorem ycL{a b:List Trm}(i j n m ca cb:Nat)(pa pb:En)(han:a.length=n)(hbm:b.length=m)(h1:a.length<=i)(w:World):Calls prog 119 #[.slice pa n ca,.int .i64 (i:Int),.slice pb m cb,.int .i64 (j:Int)] w (kM (qaW a b i j) w):=by
 have hB:=Ab w;unfold qaW kM;rw[if_pos h1];have h1I:(n:Int)<=(i:Int):=oo
 clear h1;go_enter func119,ntmps119;go_wp2;go_ret;exact⟨rfl,hB⟩
theorem vcL{a b:List Trm}(i j n m ca cb:Nat)(pa pb:En)(han:a.length=n)(hbm:b.length=m)(h1:¬ a.length<=i)(h2:b.length<=j)(w:World):Calls prog 119 #[.slice pa n ca,.int .i64 (i:Int),.slice pb m cb,.int .i64 (j:Int)] w (kM (qaW a b i j) w):=by
 have hB:=Ab w;unfold qaW kM;rw[if_neg h1];have h1I:¬ (n:Int)<=(i:Int):=oo
 rw[if_pos h2];have h2I:(m:Int)<=(j:Int):=oo
 go_enter func119,ntmps119;go_wp2;go_ret;exact⟨rfl,hB⟩
theorem zcM{a b:List Trm}(i j n m ca cb:Nat)(pa pb:En)(han:a.length=n)(hbm:b.length=m)(h1:¬ a.length<=i)(h2:¬ b.length<=j)(w:World)(hpa:TAt 34 w pa a)(hpb:TAt 34 w pb b):Calls prog 119 #[.slice pa n ca,.int .i64 (i:Int),.slice pb m cb,.int .i64 (j:Int)] w (kM (qaW a b i j) w):=by
 have hB:=Ab w;unfold qaW kM;rw[if_neg h1];have h1I:¬ (n:Int)<=(i:Int):=oo
 rw[if_neg h2];have h2I:¬ (m:Int)<=(j:Int):=oo
 have hl1:i<a.length:=oo
 have hl2:j<b.length:=oo
 have HPa:=hid hpa;have HPb:=hid hpb;have M:=fun W=>ybp ((trD a i).s:Int) ((trD b j).s:Int) W
 unfold kM at M;generalize compareInt ((trD a i).s:Int) ((trD b j).s:Int)=r at *;obtain⟨x,hx⟩:∃ x,x=trD a i:=⟨_,rfl⟩
 obtain⟨y,hy⟩:∃ y,y=trD b j:=⟨_,rfl⟩
 rw[<- hx,<- hy]at M;have hiI:(i:Int)<(n:Int):=oo
 have hjI:(j:Int)<(m:Int):=oo
 clear h1 h2 hpa hpb;obtain⟨g1,gcur,rfl,rg1,g0,g1c,g2⟩:=Cd (Ai HPa.out hB) hl1;rw[<- hx]at g0 g1c g2;clear hx;have Fg1:=Eo rg1 g0 g1c g2
 have sg1:=Fg1 _ rg1;obtain⟨g2b,kcur,rfl,rg2b,k0,k1,k2⟩:=Cd (Ai HPb.out hB) hl2;rw[<- hy]at k0 k1 k2;clear hy;have Fg2b:=Eo rg2b k0 k1 k2
 have sg2b:=Fg2b _ rg2b;clear hl1 hl2 han hbm;go_enter func119,ntmps119;go_wp2_with fail;refine jj 10 [.val (.slice (some ⟨g1,0,none⟩) n ca),.val (.int .i64 (i:Int)),.val (.pointer (some ⟨g1,i*3,none⟩)),.val (.pointer (some ⟨g1,i*3,none⟩)),.val (.int .i64 (x.s:Int)),.val (.slice (some ⟨g2b,0,none⟩) m cb),.val (.int .i64 (j:Int)),.val (.pointer (some ⟨g2b,j*3,none⟩)),.val (.pointer (some ⟨g2b,j*3,none⟩)),.val (.int .i64 (y.s:Int))] [] kr9 kr9 rfl trivial (iC qi0 (iC qi0 (iC (qif hiI) (iC qi0 (iC (qi1 fun X h=>Fg1 X (Ae rg1 h)) (iC qi0 (iC qi0 (iC (qif hjI) (iC qi0 (iC (qi1 fun X h=>Fg2b X (Ae rg2b h)) trivial)))))))))) ?_;rintro W h1;have stp:=St2 hB h1 rg1 rg2b;clear hB h1 rg1 sg1 rg2b sg2b;obtain⟨hB,rg1,rg2b⟩:=stp;have sg1:=Fg1 _ rg1;have sg2b:=Fg2b _ rg2b;simp only[je,Ah,Ak,Al,AB,AI,AC,AH];intro _;go_wp2_with fail;refine(M _).mono ?_;rintro e W1⟨rfl,h1⟩;have stp:=St2 hB h1 rg1 rg2b;clear hB h1 rg1 sg1 rg2b sg2b;obtain⟨hB,rg1,rg2b⟩:=stp;have sg1:=Fg1 _ rg1;have sg2b:=Fg2b _ rg2b;go_wp2;go_ret;exact⟨rfl,hB⟩
theorem zdb{a b:List Trm}(i j n m ca cb:Nat)(pa pb:En)(han:a.length=n)(hbm:b.length=m)(w:World)(hpa:TAt 34 w pa a)(hpb:TAt 34 w pb b):Calls prog 119 #[.slice pa n ca,.int .i64 (i:Int),.slice pb m cb,.int .i64 (j:Int)] w (kM (qaW a b i j) w):=by
 by_cases h1:a.length<=i
 ·exact ycL i j n m ca cb pa pb han hbm h1 w
 ·by_cases h2:b.length<=j
  ·exact vcL i j n m ca cb pa pb han hbm h1 h2 w
  ·exact zcM i j n m ca cb pa pb han hbm h1 h2 w hpa hpb
theorem Row.belowN{W W':World}{n b:Nat}{o:Obj}(h:Row W b o)(hb:b<n)(hB:Below n W W'):Row W' b o:=⟨AG h.1 hB.size,(hB.block _ hb).trans h.2⟩
abbrev BT:=@Row.belowN
theorem qV(o:List Trm)(s:Nat)(c:Rat)(r:List Trm):o++ahead s c r=qba o s c++r:=by
 unfold ahead qba;split<;>simp
theorem yt{l:List Trm}{i:Nat}(h:l.length<=i):l.drop i=[]:=List.drop_eq_nil_of_le h
def ku(p q:Rat):List Trm->List Trm->Prop
 | [],[]=>True
 | x :: a,[]=>MF p x.c/\ku p q a []
 | [],y :: b=>MF q y.c/\ku p q [] b
 | x :: a,y :: b =>
  if x.s<y.s then MF p x.c/\ku p q a (y :: b)
  else if y.s<x.s then MF q y.c/\ku p q (x :: a) b
  else MF p x.c/\MF q y.c/\AF (p*x.c) (q*y.c)/\ku p q a b
 termination_by a b=>a.length+b.length
theorem vR(p q:Rat)(x y:Trm)(a b:List Trm):ku p q (x :: a) (y :: b)=(if x.s<y.s then MF p x.c/\ku p q a (y :: b) else if y.s<x.s then MF q y.c/\ku p q (x :: a) b else MF p x.c/\MF q y.c/\AF (p*x.c) (q*y.c)/\ku p q a b):=by rw[ku]
theorem kck{p q:Rat}:∀(n:Nat) (a b:List Trm),a.length+b.length<=n->(∀ x,x∈a->MF p x.c)->(∀ y,y∈b->MF q y.c)->(∀ x,x∈a->∀ y,y∈b->x.s=y.s->AF (p*x.c) (q*y.c))->ku p q a b:=by
 intro n
 induction n with
 | zero =>
  intro a b hn _ _ _;have e1:a=[]:=Bc.1 oo;have e2:b=[]:=Bc.1 oo;subst e1 e2;rw[ku];trivial
 | succ n ih =>
  intro a b hn ha hb hs
  match a,b with
  | [],[]=>rw[ku];trivial
  | x :: a,[]=>rw[ku];exact⟨ha x (by simp),ih a [] (by simp at hn ⊢;omega) (fun t ht=>ha t (by simp[ht])) (by simp) (by simp)⟩
  | [],y :: b=>rw[ku];exact⟨hb y (by simp),ih [] b (by simp at hn ⊢;omega) (by simp) (fun t ht=>hb t (by simp[ht])) (by simp)⟩
  | x :: a,y :: b =>
   rw[AE,AE]at hn;rw[vR];split
   ·exact⟨ha x (by simp),ih a (y :: b) (by simp;omega) (fun t ht=>ha t (by simp[ht])) hb fun t ht=>hs t (by simp[ht])⟩
   ·split
    ·exact⟨hb y (by simp),ih (x :: a) b (by simp;omega) ha (fun t ht=>hb t (by simp[ht])) fun t ht u hu=>hs t ht u (by simp[hu])⟩
    ·exact⟨ha x (by simp),hb y (by simp),hs x (by simp) y (by simp) oo,ih a b oo (fun t ht=>ha t (by simp[ht])) (fun t ht=>hb t (by simp[ht])) fun t ht u hu=>hs t (by simp[ht]) u (by simp[hu])⟩
theorem qcl{p q:Rat}:∀(n:Nat) (a b:List Trm),a.length+b.length<=n->(lin p q a b).length<=a.length+b.length:=by
 intro n
 induction n with
 | zero =>
  intro a b hn;have e1:a=[]:=Bc.1 oo;have e2:b=[]:=Bc.1 oo;subst e1 e2;rw[zD];exact Bt _
 | succ n ih =>
  intro a b hn
  match a,b with
  | [],[]=>rw[zD];exact Bt _
  | x :: a,[] =>
   rw[yK];have:=ih a [] (by simp at hn ⊢;omega);have:=kB x.s (p*x.c) (lin p q a []);simp only[AE,Bh]at *;omega
  | [],y :: b =>
   rw[zS];have:=ih [] b (by simp at hn ⊢;omega);have:=kB y.s (q*y.c) (lin p q [] b);simp only[AE,Bh]at *;omega
  | x :: a,y :: b =>
   rw[AE,AE]at hn;rw[qI];split
   ·have:=ih a (y :: b) (by simp;omega);have:=kB x.s (p*x.c) (lin p q a (y :: b));simp only[AE]at *;omega
   ·split
    ·have:=ih (x :: a) b (by simp;omega);have:=kB y.s (q*y.c) (lin p q (x :: a) b);simp only[AE]at *;omega
    ·have:=ih a b oo;have:=kB x.s (p*x.c+q*y.c) (lin p q a b);simp only[AE]at *;omega
theorem qcD(p q:Rat)(a b:List Trm):(lin p q a b).length<=a.length+b.length:=qcl _ a b (Am _)
structure LinO(p q:Rat)(a b:Frm):Prop where
 ok:ku p q a.t b.t
 rl:MF (vj p) a.r
 rr:MF (vj q) b.r
 rs:AF (vj p*a.r) (vj q*b.r)
 few:(lin p q a.t b.t).length<=64
theorem LinF.o{p q:Rat}{a b:Frm}(h:LinF p q a b):LinO p q a b:=⟨kck _ _ _ (Am _) h.l h.r h.s,h.rl,h.rr,h.rs,h.few⟩
theorem jbY(p q:Rat)(a b:List Trm)(i k:Nat) :
  (a.length<=i/\b.length<=k/\lin p q (a.drop i) (b.drop k)=[]/\ku p q (a.drop i) (b.drop k))
  \/ (i<a.length/\qaW a b i k<0/\lin p q (a.drop i) (b.drop k)=ahead (trD a i).s (p*(trD a i).c) (lin p q (a.drop (i+1)) (b.drop k))/\(ku p q (a.drop i) (b.drop k)↔MF p (trD a i).c/\ku p q (a.drop (i+1)) (b.drop k)))
  \/ (i<a.length/\k<b.length/\0<qaW a b i k/\lin p q (a.drop i) (b.drop k)=ahead (trD b k).s (q*(trD b k).c) (lin p q (a.drop i) (b.drop (k+1)))/\(ku p q (a.drop i) (b.drop k)↔MF q (trD b k).c/\ku p q (a.drop i) (b.drop (k+1))))
  \/ (a.length<=i/\k<b.length/\0<qaW a b i k/\lin p q (a.drop i) (b.drop k)=ahead (trD b k).s (q*(trD b k).c) (lin p q (a.drop i) (b.drop (k+1)))/\(ku p q (a.drop i) (b.drop k)↔MF q (trD b k).c/\ku p q (a.drop i) (b.drop (k+1))))
  \/ (i<a.length/\k<b.length/\qaW a b i k=0/\(trD a i).s=(trD b k).s/\lin p q (a.drop i) (b.drop k)=ahead (trD a i).s (p*(trD a i).c+q*(trD b k).c) (lin p q (a.drop (i+1)) (b.drop (k+1)))/\(ku p q (a.drop i) (b.drop k)↔MF p (trD a i).c/\MF q (trD b k).c/\AF (p*(trD a i).c) (q*(trD b k).c)/\ku p q (a.drop (i+1)) (b.drop (k+1)))):=by
 by_cases h1:a.length<=i
 ·by_cases h2:b.length<=k
  ·exact .inl ⟨h1,h2,by rw[yt h1,yt h2,zD],by rw[yt h1,yt h2,ku];trivial⟩
  ·refine .inr (.inr (.inr (.inl ⟨h1,oo,?_,?_,?_⟩)))
   ·unfold qaW;rw[if_pos h1];decide
   ·rw[yt h1,kH (show k<b.length by omega),zS]
   ·rw[yt h1,kH (show k<b.length by omega),ku]
 ·by_cases h2:b.length<=k
  ·refine .inr (.inl ⟨oo,?_,?_,?_⟩)
   ·unfold qaW;rw[if_neg h1,if_pos h2];decide
   ·rw[yt h2,kH (show i<a.length by omega),yK]
   ·rw[yt h2,kH (show i<a.length by omega),ku]
  ·have e1:=kH (show i<a.length by omega);have e2:=kH (show k<b.length by omega);have ho:qaW a b i k=compareInt ((trD a i).s:Int) ((trD b k).s:Int):=by unfold qaW;rw[if_neg h1,if_neg h2]
   rcases Cf (trD a i).s (trD b k).s with h|h|h
   ·refine .inr (.inl ⟨oo,?_,?_,?_⟩)
    ·rw[ho];unfold compareInt;rw[if_pos oo];decide
    ·rw[e1,e2,qI,if_pos h]
    ·rw[e1,e2,vR,if_pos h]
   ·refine .inr (.inr (.inr (.inr ⟨oo,oo,?_,h,?_,?_⟩)))
    ·rw[ho];unfold compareInt;rw[if_neg oo,if_neg oo]
    ·rw[e1,e2,qI,if_neg oo,if_neg oo]
    ·rw[e1,e2,vR,if_neg oo,if_neg oo]
   ·refine .inr (.inr (.inl ⟨oo,oo,?_,?_,?_⟩))
    ·rw[ho];unfold compareInt;rw[if_neg oo,if_pos oo];decide
    ·rw[e1,e2,qI,if_neg oo,if_pos h]
    ·rw[e1,e2,vR,if_neg oo,if_pos h]
def za1(p q:Rat)(a b:Frm)(w:World)(e:Ending)(w':World):Prop:=∃ p' c',TAt 34 w' p' (lin p q a.t b.t)/\e=.returned (.agg #[.string ⟨#[]⟩,.string ⟨#[]⟩,.slice p' (lin p q a.t b.t).length c',.string (S (vj p*a.r+vj q*b.r).num),.string (S ((vj p*a.r+vj q*b.r).den:Int))])/\Aa w w'
theorem zbq{a0 a1:Addr}{p q:Rat}{a b:Frm}(dp:QDig 200 p)(dq:QDig 200 q)(da:FDig 200 a)(db:FDig 200 b)(la:a.t.length<=100000)(lb:b.t.length<=100000)(pa:En)(ca:Nat)(pb:En)(cb:Nat)(w:World)(hpa:TAt 34 w pa a.t)(hpb:TAt 34 w pb b.t)(he:Env w)(hf:¬ LinO p q a b->EnvA a0 a1 w) :
  Calls prog 68 #[FV a pa ca,FV b pb cb,Q p,Q q] w (Or2 (LinO p q a b) (za1 p q a b w) a1 w):=by
 have hB:=Ab w;obtain⟨n,han⟩:=yH a;obtain⟨m,hbm⟩:=yH b;have HPa:=hid hpa;have HPb:=hid hpb;have ML:=fun i (h:MF p (trD a.t i).c) W (H:Env W)=>zbF h W H
 have GL:=fun i (hi:i<a.t.length) (h:¬ MF p (trD a.t i).c) W (H:EnvA a0 a1 W)=>qU dp (da.t _ (yk hi)) h W H
 have MR:=fun k (h:MF q (trD b.t k).c) W (H:Env W)=>zbF h W H
 have GR:=fun k (hk:k<b.t.length) (h:¬ MF q (trD b.t k).c) W (H:EnvA a0 a1 W)=>qU dq (db.t _ (yk hk)) h W H
 have MS:=fun i k (h:AF (p*(trD a.t i).c) (q*(trD b.t k).c)) W (H:Env W)=>vbu h W H
 have GS:=fun i k (hi:MF p (trD a.t i).c) (hk:MF q (trD b.t k).c) (h:¬ AF (p*(trD a.t i).c) (q*(trD b.t k).c)) W (H:EnvA a0 a1 W)=>vac hi.dig hk.dig h W H
 have MC:=fun i k W (h1:TAt 34 W pa a.t) (h2:TAt 34 W pb b.t)=>zdb i k n m ca cb pa pb han hbm W h1 h2
 have Mp:=fun W (H:Env W)=>kc5 dp W H
 have Mq:=fun W (H:Env W)=>kc5 dq W H
 have Mrl:=fun(h:MF (vj p) a.r) W (H:Env W)=>zbF h W H
 have Mrr:=fun(h:MF (vj q) b.r) W (H:Env W)=>zbF h W H
 have Mrs:=fun(h:AF (vj p*a.r) (vj q*b.r)) W (H:Env W)=>vbu h W H
 have Grl:=fun(h:¬ MF (vj p) a.r) W (H:EnvA a0 a1 W)=>qU (vD dp) da.r h W H
 have Grr:=fun(h:¬ MF (vj q) b.r) W (H:EnvA a0 a1 W)=>qU (vD dq) db.r h W H
 have Grs:=fun(hl:MF (vj p) a.r) (hr:MF (vj q) b.r) (h:¬ AF (vj p*a.r) (vj q*b.r)) W (H:EnvA a0 a1 W)=>vac hl.dig hr.dig h W H
 have LO:ku p q a.t b.t->MF (vj p) a.r->MF (vj q) b.r->AF (vj p*a.r) (vj q*b.r)->(lin p q a.t b.t).length<=64->LinO p q a b:=fun h1 h2 h3 h4 h5=>⟨h1,h2,h3,h4,h5⟩
 have NO:LinO p q a b->ku p q a.t b.t/\MF (vj p) a.r/\MF (vj q) b.r/\AF (vj p*a.r) (vj q*b.r)/\(lin p q a.t b.t).length<=64:=fun h=>⟨h.1,h.2,h.3,h.4,h.5⟩
 have hln:=qcD p q a.t b.t;have LR:=jbY p q a.t b.t;have HK:Hid (ku p q a.t b.t↔ku p q (a.t.drop 0) (b.t.drop 0)):=hid Iff.rfl;generalize hK:ku p q a.t b.t=K at LO NO HK;clear hK;generalize hC:LinO p q a b=C at *;clear hC;unfold Or2 za1;unfold QIs at *;unfold kM at MC;unfold FV;unfold Q at *;generalize vj p*a.r+vj q*b.r=rs at *;generalize vj p*a.r=rl at *;generalize vj q*b.r=rr at *;generalize vj p=ap at *;generalize vj q=aq at *;rw[han,hbm]at hln ⊢;have hnI:(n:Int)<=100000:=oo
 have hmI:(m:Int)<=100000:=oo
 clear la lb;have HLR:=hid LR;have HLO:=hid LO;have HNO:=hid NO;have HAN:=hid han;have HBM:=hid hbm;have HLN:Hid (lin p q a.t b.t=[]++lin p q (a.t.drop 0) (b.t.drop 0)):=hid (by simp);generalize hL:lin p q a.t b.t=L at *;clear hL LR LO NO han hbm hpa hpb dp dq da db;go_enter func68,ntmps68;go_wp2_with fail;have d0_o:w.heap.size<=w.heap.size+1+1+1+1:=by have:=hB.size;omega
 have sB:=hB.size;refine zi (fun X=>Aa w X/\Row X w.heap.size (oF a.c a.r pa n ca)/\Row X (w.heap.size+1) (oF b.c b.r pb m cb)/\Row X (w.heap.size+1+1) (oN p)/\Row X (w.heap.size+1+1+1) (oN q)/\Row X (w.heap.size+1+1+1+1) oF0) ⟨BW,RW8,RW8,RW8,RW8,RW8⟩ ?_;clear hB sB;rintro V1⟨hB,ra,rb,rp,rq,ro⟩;have sa:=RF5 ra;have sb:=RF5 rb;have sp:=RF2 rp;have sq:=RF2 rq;have so:=kd ro;clear sa sb sp sq so;go_loopw[9,10] (fun v9 v10 wr=>∃(i k:Nat) (po:En) (co:Nat) (o:List Trm),v9=.int .i64 (i:Int)/\v10=.int .i64 (k:Int)/\i<=n/\k<=m/\Hid (L=o++lin p q (a.t.drop i) (b.t.drop k))/\Hid (K↔ku p q (a.t.drop i) (b.t.drop k))/\OT wr (w.heap.size+1+1+1+1+1) po co o/\Aa w wr/\Row wr w.heap.size (oF a.c a.r pa n ca)/\Row wr (w.heap.size+1) (oF b.c b.r pb m cb)/\Row wr (w.heap.size+1+1) (oN p)/\Row wr (w.heap.size+1+1+1) (oN q)/\Row wr (w.heap.size+1+1+1+1) (.cells #[.string ⟨#[]⟩,.string ⟨#[]⟩,.slice po o.length co,.string ⟨#[]⟩,.string ⟨#[]⟩] 26)) (fun v9 v10 _=>(n-RowKit.intOf v9).toNat+(m-RowKit.intOf v10).toNat)
 case atStart=>exact⟨0,0,none,0,[],rfl,rfl,oo,oo,HLN,HK,OT.nil _ _,hB,ra,rb,rp,rq,ro⟩
 case round =>
  clear hB ra rb rp rq ro HLN HK;obtain⟨i,k,po,co,o,rfl,rfl,hin,hkm,HL,HK,hown,hB,ra,rb,rp,rq,ro⟩:=hrel;have hol:o.length<=200000:=by have:=congrArg List.length HL.out;rw[AQ]at this;omega
  have sa:=RF5 ra;have sb:=RF5 rb;have sp:=RF2 rp;have sq:=RF2 rq;have so:=kd ro;rcases HLR.out i k with⟨h1,h2,hs,hk⟩|⟨h1,ho,hs,hk⟩|⟨h1,h2,ho,hs,hk⟩|⟨h1,h2,ho,hs,hk⟩|⟨h1,h2,ho,hss,hs,hk⟩
  ·have HS:=hid hs;clear hs;have hiI:¬ (i:Int)<(n:Int):=by have:=HAN.out;omega
   have hkI:¬ (k:Int)<(m:Int):=by have:=HBM.out;omega
   have hL:L=o:=by rw[HL.out,HS.out,List.append_nil]
   have hK:K:=HK.out.2 hk;clear HL HS MC ML MR MS GL GR GS HLR HK hk;subst hL;have FN:=ja5;go_upto_region 13 with fail;by_cases hl:MF ap a.r
   ·by_cases hr:MF aq b.r
    ·by_cases hz:AF rl rr
     ·have Mrl:=Mrl hl;have Mrr:=Mrr hr;have Mrs:=Mrs hz;clear Grl Grr Grs;by_cases hfew:L.length<=64
      ·have hc:C:=HLO.out hK hl hr hz hfew;have hfI:(L.length:Int)<=64:=oo
       go_wp2_with fail;refine qe 14 [.val (Ac p),.val (Ac ap),.val (.pointer (some ⟨w.heap.size,3,none⟩)),.val (Ac a.r),.val (Ac a.r),.val (Ac rl),.val (Ac q),.val (Ac aq),.val (.pointer (some ⟨w.heap.size+1,3,none⟩)),.val (Ac b.r),.val (Ac b.r),.val (Ac rr),.val (Ac rs),.val (Ac rs)] kr9 kr9 trivial (iC (qi1 fun X h=>RF2 (Ae rp h)) (iC (qi2 fun X h=>Mp X (he.below (Em hB h))) (iC qi0 (iC (qi1 fun X h=>RF5 (Ae ra h)) (iC qi0 (iC (qi2 fun X h=>Mrl X (he.below (Em hB h))) (iC (qi1 fun X h=>RF2 (Ae rq h)) (iC (qi2 fun X h=>Mq X (he.below (Em hB h))) (iC qi0 (iC (qi1 fun X h=>RF5 (Ae rb h)) (iC qi0 (iC (qi2 fun X h=>Mrr X (he.below (Em hB h))) (iC (qi2 fun X h=>Mrs X (he.below (Em hB h))) (iC (qif FN) trivial)))))))))))))) ?_
       rintro W h1;replace hown:=BV hown h1;have stp:=St5 hB h1 ra rb rp rq ro;clear hB h1 ra sa rb sb rp sp rq sq ro so;obtain⟨hB,ra,rb,rp,rq,ro⟩:=stp;have sa:=RF5 ra;have sb:=RF5 rb;have sp:=RF2 rp;have sq:=RF2 rq;have so:=kd ro;simp only[je,Ah,Ak,Al,AB,AI,AC,AH];go_wp2_with fail;have sB:=hB.size;refine za (fun X=>Aa w X/\Row X (w.heap.size+1+1+1+1) (oG rs po L.length co)/\OT X (w.heap.size+1+1+1+1+1) po co L) ⟨BW,RW8,OW⟩ ?_;clear ra sa rb sb rp sp rq sq ro so hB sB hown;rintro V2⟨hB,ro,hown⟩;have so:=kd ro;refine(vn _).mono ?_;rintro e W3⟨rfl,h1⟩;replace hown:=BV hown h1;have stp:=St1 hB h1 ro;clear hB h1 ro so;obtain⟨hB,ro⟩:=stp;have so:=kd ro;go_wp2_with fail;have sB:=hB.size;refine vc (kp1 hB ro fun X=>OT X (w.heap.size+1+1+1+1+1) po co L) ⟨BW,RW8,OW⟩ ?_;unfold kp1;clear ro so hB sB hown;rintro V4⟨hB,ro,hown⟩;have so:=kd ro;refine bodyPost_ret (v:=.agg #[.string ⟨#[]⟩,.string ⟨#[]⟩,.slice po L.length co,.string (S rs.num),.string (S (rs.den:Int))]) ?res rfl (.inl ⟨hc,po,co,OT.tat hown,rfl,hB⟩)
       case res=>simp[results,results68,go_sem,so]
      ·have hc:¬ C:=fun h=>hfew (HNO.out h).2.2.2.2
       have HE:=hf hc;have hfI:¬ (L.length:Int)<=64:=oo
       have hfI2:(64:Int)<(L.length:Int):=oo
       go_wp2_with fail;refine qe 14 [.val (Ac p),.val (Ac ap),.val (.pointer (some ⟨w.heap.size,3,none⟩)),.val (Ac a.r),.val (Ac a.r),.val (Ac rl),.val (Ac q),.val (Ac aq),.val (.pointer (some ⟨w.heap.size+1,3,none⟩)),.val (Ac b.r),.val (Ac b.r),.val (Ac rr),.val (Ac rs),.val (Ac rs)] kr9 kr9 trivial (iC (qi1 fun X h=>RF2 (Ae rp h)) (iC (qi2 fun X h=>Mp X (he.below (Em hB h))) (iC qi0 (iC (qi1 fun X h=>RF5 (Ae ra h)) (iC qi0 (iC (qi2 fun X h=>Mrl X (he.below (Em hB h))) (iC (qi1 fun X h=>RF2 (Ae rq h)) (iC (qi2 fun X h=>Mq X (he.below (Em hB h))) (iC qi0 (iC (qi1 fun X h=>RF5 (Ae rb h)) (iC qi0 (iC (qi2 fun X h=>Mrr X (he.below (Em hB h))) (iC (qi2 fun X h=>Mrs X (he.below (Em hB h))) (iC (qif FN) trivial)))))))))))))) ?_
       rintro W h1;replace hown:=BV hown h1;have stp:=St5 hB h1 ra rb rp rq ro;clear hB h1 ra sa rb sb rp sp rq sq ro so;obtain⟨hB,ra,rb,rp,rq,ro⟩:=stp;have sa:=RF5 ra;have sb:=RF5 rb;have sp:=RF2 rp;have sq:=RF2 rq;have so:=kd ro;simp only[je,Ah,Ak,Al,AB,AI,AC,AH];go_wp2_with fail;have sB:=hB.size;refine za (fun X=>Aa w X/\Row X (w.heap.size+1+1+1+1) (oG rs po L.length co)/\OT X (w.heap.size+1+1+1+1+1) po co L) ⟨BW,RW8,OW⟩ ?_;clear ra sa rb sb rp sp rq sq ro so hB sB hown;rintro V2⟨hB,ro,hown⟩;have so:=kd ro;rw[@decide_eq_false _ _ (Int.not_le.2 hfI)];refine(vz _ (HE.below hB)).mono ?_;rintro e W9⟨rfl,h1⟩;exact⟨rfl,.inr ⟨hc,rfl,Em hB h1⟩⟩
     ·have hc:¬ C:=fun h=>hz (HNO.out h).2.2.2.1
      have HE:=hf hc;have Grs:=Grs hl hr hz;have Mrl:=Mrl hl;have Mrr:=Mrr hr;clear hf;go_upto_region 13 with fail;exact ye 12 [true,true,true,true,true,true,true,true,true,true,true,true,false,false,false,false] [.val (Ac p),.val (Ac ap),.val (.pointer (some ⟨w.heap.size,3,none⟩)),.val (Ac a.r),.val (Ac a.r),.val (Ac rl),.val (Ac q),.val (Ac aq),.val (.pointer (some ⟨w.heap.size+1,3,none⟩)),.val (Ac b.r),.val (Ac b.r),.val (Ac rr),.val undef,.val undef,.val undef,.val undef] (ji a1 w) kr9 kr9 trivial (bC (qi1 fun X h=>RF2 (Ae rp h)) (bC (qi2 fun X h=>Mp X (he.below (Em hB h))) (bC qi0 (bC (qi1 fun X h=>RF5 (Ae ra h)) (bC qi0 (bC (qi2 fun X h=>Mrl X (he.below (Em hB h))) (bC (qi1 fun X h=>RF2 (Ae rq h)) (bC (qi2 fun X h=>Mq X (he.below (Em hB h))) (bC qi0 (bC (qi1 fun X h=>RF5 (Ae rb h)) (bC qi0 (bC (qi2 fun X h=>Mrr X (he.below (Em hB h))) (bS9 (bS9 (bS9 (bS9 trivial)))))))))))))))) (qhf rfl (fun X h=>ko (Em hB h) (Grs X (HE.below (Em hB h))))) fun e W ⟨h1,h2⟩=>⟨_,h1,fun _ h3=>⟨h3,.inr ⟨hc,rfl,h2⟩⟩⟩
    ·have hc:¬ C:=fun h=>hr (HNO.out h).2.2.1
     have HE:=hf hc;have Grr:=Grr hr;have Mrl:=Mrl hl;clear hf;go_upto_region 13 with fail;exact ye 11 [true,true,true,true,true,true,true,true,true,true,true,false,false,false,false,false] [.val (Ac p),.val (Ac ap),.val (.pointer (some ⟨w.heap.size,3,none⟩)),.val (Ac a.r),.val (Ac a.r),.val (Ac rl),.val (Ac q),.val (Ac aq),.val (.pointer (some ⟨w.heap.size+1,3,none⟩)),.val (Ac b.r),.val (Ac b.r),.val undef,.val undef,.val undef,.val undef,.val undef] (ji a1 w) kr9 kr9 trivial (bC (qi1 fun X h=>RF2 (Ae rp h)) (bC (qi2 fun X h=>Mp X (he.below (Em hB h))) (bC qi0 (bC (qi1 fun X h=>RF5 (Ae ra h)) (bC qi0 (bC (qi2 fun X h=>Mrl X (he.below (Em hB h))) (bC (qi1 fun X h=>RF2 (Ae rq h)) (bC (qi2 fun X h=>Mq X (he.below (Em hB h))) (bC qi0 (bC (qi1 fun X h=>RF5 (Ae rb h)) (bC qi0 (bS9 (bS9 (bS9 (bS9 (bS9 trivial)))))))))))))))) (qhf rfl (fun X h=>ko (Em hB h) (Grr X (HE.below (Em hB h))))) fun e W ⟨h1,h2⟩=>⟨_,h1,fun _ h3=>⟨h3,.inr ⟨hc,rfl,h2⟩⟩⟩
   ·have hc:¬ C:=fun h=>hl (HNO.out h).2.1
    have HE:=hf hc;have Grl:=Grl hl;clear hf;go_upto_region 13 with fail;exact ye 5 [true,true,true,true,true,false,true,false,true,true,true,false,false,false,false,false] [.val (Ac p),.val (Ac ap),.val (.pointer (some ⟨w.heap.size,3,none⟩)),.val (Ac a.r),.val (Ac a.r),.val undef,.val (Ac q),.val undef,.val (.pointer (some ⟨w.heap.size+1,3,none⟩)),.val (Ac b.r),.val (Ac b.r),.val undef,.val undef,.val undef,.val undef,.val undef] (ji a1 w) kr9 kr9 trivial (bC (qi1 fun X h=>RF2 (Ae rp h)) (bC (qi2 fun X h=>Mp X (he.below (Em hB h))) (bC qi0 (bC (qi1 fun X h=>RF5 (Ae ra h)) (bC qi0 (bS9 (bC (qi1 fun X h=>RF2 (Ae rq h)) (bS9 (bC qi0 (bC (qi1 fun X h=>RF5 (Ae rb h)) (bC qi0 (bS9 (bS9 (bS9 (bS9 (bS9 trivial)))))))))))))))) (qhf rfl (fun X h=>ko (Em hB h) (Grl X (HE.below (Em hB h))))) fun e W ⟨h1,h2⟩=>⟨_,h1,fun _ h3=>⟨h3,.inr ⟨hc,rfl,h2⟩⟩⟩
  ·have HS:=hid hs;clear hs;have hiI:(i:Int)<(n:Int):=by have:=HAN.out;omega
   have hiN:i<n:=by have:=HAN.out;omega
   have HKS:=hid (HK.out.trans hk);clear hk HK Grl Grr Grs;have MC:=MC i k;generalize qaW a.t b.t i k=r at *;have ML:=ML i;have GL:=GL i h1;obtain⟨x,hx⟩:∃ x,x=trD a.t i:=⟨_,rfl⟩
   rw[<- hx]at ML GL HS HKS;obtain⟨ga,gcur,rfl,rga,g0,g1,g2⟩:=Cd (Ai HPa.out hB) h1;rw[<- hx]at g0 g1 g2;clear hx;have Fga:=Eo rga g0 g1 g2
   have sga:=Fga _ rga;have DZ:MF p x.c->QDig 200 (p*x.c):=MF.dig;generalize p*x.c=z at *;have ho2:r<0:=ho;clear ho;go_wp2_with fail;refine(MC _ (Ai HPa.out hB) (Ai HPb.out hB)).mono ?_;rintro e W2⟨rfl,h1⟩;replace hown:=BV hown h1;have stp:=St6 hB h1 ra rb rp rq ro rga;clear hB h1 ra sa rb sb rp sp rq sq ro so rga sga;obtain⟨hB,ra,rb,rp,rq,ro,rga⟩:=stp;have sa:=RF5 ra;have sb:=RF5 rb;have sp:=RF2 rp;have sq:=RF2 rq;have so:=kd ro;have sga:=Fga _ rga;go_upto_region 8 with fail;by_cases hm:MF p x.c
   ·have HK:=hid (HKS.out.trans ⟨fun h=>h.2,fun h=>⟨hm,h⟩⟩);have ML:=ML hm;have DZ:=DZ hm;clear GL GR GS hm HKS;go_wp2_with fail;refine jj 16 [.val (.func (.func 118) #[] #[.pointer (some ⟨w.heap.size+1+1+1+1,0,none⟩)]),.val (.pointer (some ⟨w.heap.size,2,none⟩)),.val (.slice (some ⟨ga,0,none⟩) n ca),.val (.int .i64 (i:Int)),.val (.pointer (some ⟨ga,i*3,none⟩)),.val (.pointer (some ⟨ga,i*3,none⟩)),.val (.int .i64 (x.s:Int)),.val (Ac p),.val (.pointer (some ⟨w.heap.size,2,none⟩)),.val (.slice (some ⟨ga,0,none⟩) n ca),.val (.int .i64 (i:Int)),.val (.pointer (some ⟨ga,i*3,none⟩)),.val (.pointer (some ⟨ga,i*3+1,none⟩)),.val (Ac x.c),.val (Ac x.c),.val (Ac z)] [] kr9 kr9 rfl trivial (iC qi0 (iC qi0 (iC (qi1 fun X h=>RF5 (Ae ra h)) (iC qi0 (iC (qif hiI) (iC qi0 (iC (qi1 fun X h=>Fga X (Ae rga h)) (iC (qi1 fun X h=>RF2 (Ae rp h)) (iC qi0 (iC (qi1 fun X h=>RF5 (Ae ra h)) (iC qi0 (iC (qif hiI) (iC qi0 (iC (qi1 fun X h=>Fga X (Ae rga h)) (iC qi0 (iC (qi2 fun X h=>ML X (he.below (Em hB h))) trivial)))))))))))))))) ?_
    rintro W h1;replace hown:=BV hown h1;have stp:=St6 hB h1 ra rb rp rq ro rga;clear hB h1 ra sa rb sb rp sp rq sq ro so rga sga;obtain⟨hB,ra,rb,rp,rq,ro,rga⟩:=stp;have sa:=RF5 ra;have sb:=RF5 rb;have sp:=RF2 rp;have sq:=RF2 rq;have so:=kd ro;have sga:=Fga _ rga;simp only[je,Ah,Ak,Al,AB,AI,AC,AH];intro _;go_wp2_with fail;have sbo:=ro.1;refine(zcc (n0:=w.heap.size+1+1+1+1+1) x.s DZ (w.heap.size+1+1+1+1) _ _ _ _ po co o hol _ ro hown oo sbo (Ch sbo) (he.below hB)).mono ?_;clear sa sb sp sq so sga;rintro e W9⟨p',c',ro',hown',rfl,h1⟩;clear sbo;replace hB:=hB.trans (h1.mono oo);replace ra:=BT ra oo h1;replace rb:=BT rb oo h1;replace rp:=BT rp oo h1;replace rq:=BT rq oo h1;clear rga ro hown h1;have ro:=ro';have hown:=hown';clear ro' hown';have sa:=RF5 ra;have sb:=RF5 rb;have sp:=RF2 rp;have sq:=RF2 rq;have so:=kd ro;go_wp2;go_roundw
    case rel=>exact⟨i+1,k,p',c',qba o x.s z,by go_num,by go_num,oo,oo,hid (by rw[HL.out,HS.out,qV]),HK,hown,BW,RW8,RW8,RW8,RW8,RW8⟩
    case measure=>exact El
   ·have hc:¬ C:=fun h=>hm (HKS.out.1 (HNO.out h).1).1
    have HE:=hf hc;have GL:=GL hm;go_upto_region 8 with fail;exact ye 15 [true,true,true,true,true,true,true,true,true,true,true,true,true,true,true,false,false] [.val (.func (.func 118) #[] #[.pointer (some ⟨w.heap.size+1+1+1+1,0,none⟩)]),.val (.pointer (some ⟨w.heap.size,2,none⟩)),.val (.slice (some ⟨ga,0,none⟩) n ca),.val (.int .i64 (i:Int)),.val (.pointer (some ⟨ga,i*3,none⟩)),.val (.pointer (some ⟨ga,i*3,none⟩)),.val (.int .i64 (x.s:Int)),.val (Ac p),.val (.pointer (some ⟨w.heap.size,2,none⟩)),.val (.slice (some ⟨ga,0,none⟩) n ca),.val (.int .i64 (i:Int)),.val (.pointer (some ⟨ga,i*3,none⟩)),.val (.pointer (some ⟨ga,i*3+1,none⟩)),.val (Ac x.c),.val (Ac x.c),.val undef,.val undef] (ji a1 w) kr9 kr9 trivial (bC qi0 (bC qi0 (bC (qi1 fun X h=>RF5 (Ae ra h)) (bC qi0 (bC (qif hiI) (bC qi0 (bC (qi1 fun X h=>Fga X (Ae rga h)) (bC (qi1 fun X h=>RF2 (Ae rp h)) (bC qi0 (bC (qi1 fun X h=>RF5 (Ae ra h)) (bC qi0 (bC (qif hiI) (bC qi0 (bC (qi1 fun X h=>Fga X (Ae rga h)) (bC qi0 (bS9 (bS9 trivial))))))))))))))))) (qhf rfl (fun X h=>ko (Em hB h) (GL X (HE.below (Em hB h))))) fun e W ⟨h1,h2⟩=>⟨_,h1,fun _ h3=>⟨h3,.inr ⟨hc,rfl,h2⟩⟩⟩
  ·have HS:=hid hs;clear hs;have hiI:(i:Int)<(n:Int):=by have:=HAN.out;omega
   have hiN:i<n:=by have:=HAN.out;omega
   have hkN:k<m:=by have:=HBM.out;omega
   have hkI:(k:Int)<(m:Int):=by have:=HBM.out;omega
   have HKS:=hid (HK.out.trans hk);clear hk HK Grl Grr Grs;have MC:=MC i k;generalize qaW a.t b.t i k=r at *;have MR:=MR k;have GR:=GR k h2;obtain⟨y,hy⟩:∃ y,y=trD b.t k:=⟨_,rfl⟩
   rw[<- hy]at MR GR HS HKS;obtain⟨gb,kcur,rfl,rgb,k0,k1,k2⟩:=Cd (Ai HPb.out hB) h2;rw[<- hy]at k0 k1 k2;clear hy;have Fgb:=Eo rgb k0 k1 k2
   have sgb:=Fgb _ rgb;have DZ:MF q y.c->QDig 200 (q*y.c):=MF.dig;generalize q*y.c=z at *;have ho2:¬ r<0:=oo
   have ho3:0<r:=ho;clear ho;go_wp2_with fail;refine(MC _ (Ai HPa.out hB) (Ai HPb.out hB)).mono ?_;rintro e W2⟨rfl,h1⟩;replace hown:=BV hown h1;have stp:=St6 hB h1 ra rb rp rq ro rgb;clear hB h1 ra sa rb sb rp sp rq sq ro so rgb sgb;obtain⟨hB,ra,rb,rp,rq,ro,rgb⟩:=stp;have sa:=RF5 ra;have sb:=RF5 rb;have sp:=RF2 rp;have sq:=RF2 rq;have so:=kd ro;have sgb:=Fgb _ rgb;go_upto_region 11 with fail;by_cases hm:MF q y.c
   ·have HK:=hid (HKS.out.trans ⟨fun h=>h.2,fun h=>⟨hm,h⟩⟩);have MR:=MR hm;have DZ:=DZ hm;clear GL GR GS hm HKS;go_wp2_with fail;refine jj 16 [.val (.func (.func 118) #[] #[.pointer (some ⟨w.heap.size+1+1+1+1,0,none⟩)]),.val (.pointer (some ⟨w.heap.size+1,2,none⟩)),.val (.slice (some ⟨gb,0,none⟩) m cb),.val (.int .i64 (k:Int)),.val (.pointer (some ⟨gb,k*3,none⟩)),.val (.pointer (some ⟨gb,k*3,none⟩)),.val (.int .i64 (y.s:Int)),.val (Ac q),.val (.pointer (some ⟨w.heap.size+1,2,none⟩)),.val (.slice (some ⟨gb,0,none⟩) m cb),.val (.int .i64 (k:Int)),.val (.pointer (some ⟨gb,k*3,none⟩)),.val (.pointer (some ⟨gb,k*3+1,none⟩)),.val (Ac y.c),.val (Ac y.c),.val (Ac z)] [] kr9 kr9 rfl trivial (iC qi0 (iC qi0 (iC (qi1 fun X h=>RF5 (Ae rb h)) (iC qi0 (iC (qif hkI) (iC qi0 (iC (qi1 fun X h=>Fgb X (Ae rgb h)) (iC (qi1 fun X h=>RF2 (Ae rq h)) (iC qi0 (iC (qi1 fun X h=>RF5 (Ae rb h)) (iC qi0 (iC (qif hkI) (iC qi0 (iC (qi1 fun X h=>Fgb X (Ae rgb h)) (iC qi0 (iC (qi2 fun X h=>MR X (he.below (Em hB h))) trivial)))))))))))))))) ?_
    rintro W h1;replace hown:=BV hown h1;have stp:=St6 hB h1 ra rb rp rq ro rgb;clear hB h1 ra sa rb sb rp sp rq sq ro so rgb sgb;obtain⟨hB,ra,rb,rp,rq,ro,rgb⟩:=stp;have sa:=RF5 ra;have sb:=RF5 rb;have sp:=RF2 rp;have sq:=RF2 rq;have so:=kd ro;have sgb:=Fgb _ rgb;simp only[je,Ah,Ak,Al,AB,AI,AC,AH];intro _;go_wp2_with fail;have sbo:=ro.1;refine(zcc (n0:=w.heap.size+1+1+1+1+1) y.s DZ (w.heap.size+1+1+1+1) _ _ _ _ po co o hol _ ro hown oo sbo (Ch sbo) (he.below hB)).mono ?_;clear sa sb sp sq so sgb;rintro e W9⟨p',c',ro',hown',rfl,h1⟩;clear sbo;replace hB:=hB.trans (h1.mono oo);replace ra:=BT ra oo h1;replace rb:=BT rb oo h1;replace rp:=BT rp oo h1;replace rq:=BT rq oo h1;clear rgb ro hown h1;have ro:=ro';have hown:=hown';clear ro' hown';have sa:=RF5 ra;have sb:=RF5 rb;have sp:=RF2 rp;have sq:=RF2 rq;have so:=kd ro;go_wp2;go_roundw
    case rel=>exact⟨i,k+1,p',c',qba o y.s z,by go_num,by go_num,oo,oo,hid (by rw[HL.out,HS.out,qV]),HK,hown,BW,RW8,RW8,RW8,RW8,RW8⟩
    case measure=>exact El
   ·have hc:¬ C:=fun h=>hm (HKS.out.1 (HNO.out h).1).1
    have HE:=hf hc;have GR:=GR hm;go_upto_region 11 with fail;exact ye 15 [true,true,true,true,true,true,true,true,true,true,true,true,true,true,true,false,false] [.val (.func (.func 118) #[] #[.pointer (some ⟨w.heap.size+1+1+1+1,0,none⟩)]),.val (.pointer (some ⟨w.heap.size+1,2,none⟩)),.val (.slice (some ⟨gb,0,none⟩) m cb),.val (.int .i64 (k:Int)),.val (.pointer (some ⟨gb,k*3,none⟩)),.val (.pointer (some ⟨gb,k*3,none⟩)),.val (.int .i64 (y.s:Int)),.val (Ac q),.val (.pointer (some ⟨w.heap.size+1,2,none⟩)),.val (.slice (some ⟨gb,0,none⟩) m cb),.val (.int .i64 (k:Int)),.val (.pointer (some ⟨gb,k*3,none⟩)),.val (.pointer (some ⟨gb,k*3+1,none⟩)),.val (Ac y.c),.val (Ac y.c),.val undef,.val undef] (ji a1 w) kr9 kr9 trivial (bC qi0 (bC qi0 (bC (qi1 fun X h=>RF5 (Ae rb h)) (bC qi0 (bC (qif hkI) (bC qi0 (bC (qi1 fun X h=>Fgb X (Ae rgb h)) (bC (qi1 fun X h=>RF2 (Ae rq h)) (bC qi0 (bC (qi1 fun X h=>RF5 (Ae rb h)) (bC qi0 (bC (qif hkI) (bC qi0 (bC (qi1 fun X h=>Fgb X (Ae rgb h)) (bC qi0 (bS9 (bS9 trivial))))))))))))))))) (qhf rfl (fun X h=>ko (Em hB h) (GR X (HE.below (Em hB h))))) fun e W ⟨h1,h2⟩=>⟨_,h1,fun _ h3=>⟨h3,.inr ⟨hc,rfl,h2⟩⟩⟩
  ·have HS:=hid hs;clear hs;have hiI:¬ (i:Int)<(n:Int):=by have:=HAN.out;omega
   have hkN:k<m:=by have:=HBM.out;omega
   have hkI:(k:Int)<(m:Int):=by have:=HBM.out;omega
   have HKS:=hid (HK.out.trans hk);clear hk HK Grl Grr Grs;have MC:=MC i k;generalize qaW a.t b.t i k=r at *;have MR:=MR k;have GR:=GR k h2;obtain⟨y,hy⟩:∃ y,y=trD b.t k:=⟨_,rfl⟩
   rw[<- hy]at MR GR HS HKS;obtain⟨gb,kcur,rfl,rgb,k0,k1,k2⟩:=Cd (Ai HPb.out hB) h2;rw[<- hy]at k0 k1 k2;clear hy;have Fgb:=Eo rgb k0 k1 k2
   have sgb:=Fgb _ rgb;have DZ:MF q y.c->QDig 200 (q*y.c):=MF.dig;generalize q*y.c=z at *;have ho2:¬ r<0:=oo
   have ho3:0<r:=ho;clear ho;go_wp2_with fail;refine(MC _ (Ai HPa.out hB) (Ai HPb.out hB)).mono ?_;rintro e W2⟨rfl,h1⟩;replace hown:=BV hown h1;have stp:=St6 hB h1 ra rb rp rq ro rgb;clear hB h1 ra sa rb sb rp sp rq sq ro so rgb sgb;obtain⟨hB,ra,rb,rp,rq,ro,rgb⟩:=stp;have sa:=RF5 ra;have sb:=RF5 rb;have sp:=RF2 rp;have sq:=RF2 rq;have so:=kd ro;have sgb:=Fgb _ rgb;go_upto_region 11 with fail;by_cases hm:MF q y.c
   ·have HK:=hid (HKS.out.trans ⟨fun h=>h.2,fun h=>⟨hm,h⟩⟩);have MR:=MR hm;have DZ:=DZ hm;clear GL GR GS hm HKS;go_wp2_with fail;refine jj 16 [.val (.func (.func 118) #[] #[.pointer (some ⟨w.heap.size+1+1+1+1,0,none⟩)]),.val (.pointer (some ⟨w.heap.size+1,2,none⟩)),.val (.slice (some ⟨gb,0,none⟩) m cb),.val (.int .i64 (k:Int)),.val (.pointer (some ⟨gb,k*3,none⟩)),.val (.pointer (some ⟨gb,k*3,none⟩)),.val (.int .i64 (y.s:Int)),.val (Ac q),.val (.pointer (some ⟨w.heap.size+1,2,none⟩)),.val (.slice (some ⟨gb,0,none⟩) m cb),.val (.int .i64 (k:Int)),.val (.pointer (some ⟨gb,k*3,none⟩)),.val (.pointer (some ⟨gb,k*3+1,none⟩)),.val (Ac y.c),.val (Ac y.c),.val (Ac z)] [] kr9 kr9 rfl trivial (iC qi0 (iC qi0 (iC (qi1 fun X h=>RF5 (Ae rb h)) (iC qi0 (iC (qif hkI) (iC qi0 (iC (qi1 fun X h=>Fgb X (Ae rgb h)) (iC (qi1 fun X h=>RF2 (Ae rq h)) (iC qi0 (iC (qi1 fun X h=>RF5 (Ae rb h)) (iC qi0 (iC (qif hkI) (iC qi0 (iC (qi1 fun X h=>Fgb X (Ae rgb h)) (iC qi0 (iC (qi2 fun X h=>MR X (he.below (Em hB h))) trivial)))))))))))))))) ?_
    rintro W h1;replace hown:=BV hown h1;have stp:=St6 hB h1 ra rb rp rq ro rgb;clear hB h1 ra sa rb sb rp sp rq sq ro so rgb sgb;obtain⟨hB,ra,rb,rp,rq,ro,rgb⟩:=stp;have sa:=RF5 ra;have sb:=RF5 rb;have sp:=RF2 rp;have sq:=RF2 rq;have so:=kd ro;have sgb:=Fgb _ rgb;simp only[je,Ah,Ak,Al,AB,AI,AC,AH];intro _;go_wp2_with fail;have sbo:=ro.1;refine(zcc (n0:=w.heap.size+1+1+1+1+1) y.s DZ (w.heap.size+1+1+1+1) _ _ _ _ po co o hol _ ro hown oo sbo (Ch sbo) (he.below hB)).mono ?_;clear sa sb sp sq so sgb;rintro e W9⟨p',c',ro',hown',rfl,h1⟩;clear sbo;replace hB:=hB.trans (h1.mono oo);replace ra:=BT ra oo h1;replace rb:=BT rb oo h1;replace rp:=BT rp oo h1;replace rq:=BT rq oo h1;clear rgb ro hown h1;have ro:=ro';have hown:=hown';clear ro' hown';have sa:=RF5 ra;have sb:=RF5 rb;have sp:=RF2 rp;have sq:=RF2 rq;have so:=kd ro;go_wp2;go_roundw
    case rel=>exact⟨i,k+1,p',c',qba o y.s z,by go_num,by go_num,oo,oo,hid (by rw[HL.out,HS.out,qV]),HK,hown,BW,RW8,RW8,RW8,RW8,RW8⟩
    case measure=>exact El
   ·have hc:¬ C:=fun h=>hm (HKS.out.1 (HNO.out h).1).1
    have HE:=hf hc;have GR:=GR hm;go_upto_region 11 with fail;exact ye 15 [true,true,true,true,true,true,true,true,true,true,true,true,true,true,true,false,false] [.val (.func (.func 118) #[] #[.pointer (some ⟨w.heap.size+1+1+1+1,0,none⟩)]),.val (.pointer (some ⟨w.heap.size+1,2,none⟩)),.val (.slice (some ⟨gb,0,none⟩) m cb),.val (.int .i64 (k:Int)),.val (.pointer (some ⟨gb,k*3,none⟩)),.val (.pointer (some ⟨gb,k*3,none⟩)),.val (.int .i64 (y.s:Int)),.val (Ac q),.val (.pointer (some ⟨w.heap.size+1,2,none⟩)),.val (.slice (some ⟨gb,0,none⟩) m cb),.val (.int .i64 (k:Int)),.val (.pointer (some ⟨gb,k*3,none⟩)),.val (.pointer (some ⟨gb,k*3+1,none⟩)),.val (Ac y.c),.val (Ac y.c),.val undef,.val undef] (ji a1 w) kr9 kr9 trivial (bC qi0 (bC qi0 (bC (qi1 fun X h=>RF5 (Ae rb h)) (bC qi0 (bC (qif hkI) (bC qi0 (bC (qi1 fun X h=>Fgb X (Ae rgb h)) (bC (qi1 fun X h=>RF2 (Ae rq h)) (bC qi0 (bC (qi1 fun X h=>RF5 (Ae rb h)) (bC qi0 (bC (qif hkI) (bC qi0 (bC (qi1 fun X h=>Fgb X (Ae rgb h)) (bC qi0 (bS9 (bS9 trivial))))))))))))))))) (qhf rfl (fun X h=>ko (Em hB h) (GR X (HE.below (Em hB h))))) fun e W ⟨h1,h2⟩=>⟨_,h1,fun _ h3=>⟨h3,.inr ⟨hc,rfl,h2⟩⟩⟩
  ·have HS:=hid hs;clear hs;have hiI:(i:Int)<(n:Int):=by have:=HAN.out;omega
   have hiN:i<n:=by have:=HAN.out;omega
   have hkN:k<m:=by have:=HBM.out;omega
   have hkI:(k:Int)<(m:Int):=by have:=HBM.out;omega
   have HKS:=hid (HK.out.trans hk);clear hk HK Grl Grr Grs;have MC:=MC i k;generalize qaW a.t b.t i k=r at *;have ML:=ML i;have GL:=GL i h1;have MR:=MR k;have GR:=GR k h2;have MS:=MS i k;have GS:=GS i k;clear hss;obtain⟨x,hx⟩:∃ x,x=trD a.t i:=⟨_,rfl⟩
   rw[<- hx]at ML GL HS HKS MS GS;obtain⟨y,hy⟩:∃ y,y=trD b.t k:=⟨_,rfl⟩
   rw[<- hy]at MR GR HS HKS MS GS;obtain⟨ga,gcur,rfl,rga,g0,g1,g2⟩:=Cd (Ai HPa.out hB) h1;rw[<- hx]at g0 g1 g2;clear hx;have Fga:=Eo rga g0 g1 g2
   have sga:=Fga _ rga;obtain⟨gb,kcur,rfl,rgb,k0,k1,k2⟩:=Cd (Ai HPb.out hB) h2;rw[<- hy]at k0 k1 k2;clear hy;have Fgb:=Eo rgb k0 k1 k2
   have sgb:=Fgb _ rgb;have DZ:AF (p*x.c) (q*y.c)->QDig 200 (p*x.c+q*y.c):=AF.dig;generalize p*x.c+q*y.c=z at *;generalize p*x.c=zx at *;generalize q*y.c=zy at *;have ho2:¬ r<0:=oo
   have ho3:¬ 0<r:=oo
   clear ho;go_wp2_with fail;refine(MC _ (Ai HPa.out hB) (Ai HPb.out hB)).mono ?_;rintro e W2⟨rfl,h1⟩;replace hown:=BV hown h1;have stp:=St7 hB h1 ra rb rp rq ro rga rgb;clear hB h1 ra sa rb sb rp sp rq sq ro so rga sga rgb sgb;obtain⟨hB,ra,rb,rp,rq,ro,rga,rgb⟩:=stp;have sa:=RF5 ra;have sb:=RF5 rb;have sp:=RF2 rp;have sq:=RF2 rq;have so:=kd ro;have sga:=Fga _ rga;have sgb:=Fgb _ rgb;go_upto_region 5 with fail;by_cases hm:MF p x.c
   ·by_cases hn:MF q y.c
    ·by_cases hz:AF zx zy
     ·have HK:=hid (HKS.out.trans ⟨fun h=>h.2.2.2,fun h=>⟨hm,hn,hz,h⟩⟩);have ML:=ML hm;have MR:=MR hn;have MS:=MS hz;have DZ:=DZ hz;clear GL GR GS hm hn hz HKS;go_wp2_with fail;refine jj 26 [.val (.func (.func 118) #[] #[.pointer (some ⟨w.heap.size+1+1+1+1,0,none⟩)]),.val (.pointer (some ⟨w.heap.size,2,none⟩)),.val (.slice (some ⟨ga,0,none⟩) n ca),.val (.int .i64 (i:Int)),.val (.pointer (some ⟨ga,i*3,none⟩)),.val (.pointer (some ⟨ga,i*3,none⟩)),.val (.int .i64 (x.s:Int)),.val (Ac p),.val (.pointer (some ⟨w.heap.size,2,none⟩)),.val (.slice (some ⟨ga,0,none⟩) n ca),.val (.int .i64 (i:Int)),.val (.pointer (some ⟨ga,i*3,none⟩)),.val (.pointer (some ⟨ga,i*3+1,none⟩)),.val (Ac x.c),.val (Ac x.c),.val (Ac zx),.val (Ac q),.val (.pointer (some ⟨w.heap.size+1,2,none⟩)),.val (.slice (some ⟨gb,0,none⟩) m cb),.val (.int .i64 (k:Int)),.val (.pointer (some ⟨gb,k*3,none⟩)),.val (.pointer (some ⟨gb,k*3+1,none⟩)),.val (Ac y.c),.val (Ac y.c),.val (Ac zy),.val (Ac z)] [] kr9 kr9 rfl trivial (iC qi0 (iC qi0 (iC (qi1 fun X h=>RF5 (Ae ra h)) (iC qi0 (iC (qif hiI) (iC qi0 (iC (qi1 fun X h=>Fga X (Ae rga h)) (iC (qi1 fun X h=>RF2 (Ae rp h)) (iC qi0 (iC (qi1 fun X h=>RF5 (Ae ra h)) (iC qi0 (iC (qif hiI) (iC qi0 (iC (qi1 fun X h=>Fga X (Ae rga h)) (iC qi0 (iC (qi2 fun X h=>ML X (he.below (Em hB h))) (iC (qi1 fun X h=>RF2 (Ae rq h)) (iC qi0 (iC (qi1 fun X h=>RF5 (Ae rb h)) (iC qi0 (iC (qif hkI) (iC qi0 (iC (qi1 fun X h=>Fgb X (Ae rgb h)) (iC qi0 (iC (qi2 fun X h=>MR X (he.below (Em hB h))) (iC (qi2 fun X h=>MS X (he.below (Em hB h))) trivial)))))))))))))))))))))))))) ?_
      rintro W h1;replace hown:=BV hown h1;have stp:=St7 hB h1 ra rb rp rq ro rga rgb;clear hB h1 ra sa rb sb rp sp rq sq ro so rga sga rgb sgb;obtain⟨hB,ra,rb,rp,rq,ro,rga,rgb⟩:=stp;have sa:=RF5 ra;have sb:=RF5 rb;have sp:=RF2 rp;have sq:=RF2 rq;have so:=kd ro;have sga:=Fga _ rga;have sgb:=Fgb _ rgb;simp only[je,Ah,Ak,Al,AB,AI,AC,AH];intro _;go_wp2_with fail;have sbo:=ro.1;refine(zcc (n0:=w.heap.size+1+1+1+1+1) x.s DZ (w.heap.size+1+1+1+1) _ _ _ _ po co o hol _ ro hown oo sbo (Ch sbo) (he.below hB)).mono ?_;clear sa sb sp sq so sga sgb;rintro e W9⟨p',c',ro',hown',rfl,h1⟩;clear sbo;replace hB:=hB.trans (h1.mono oo);replace ra:=BT ra oo h1;replace rb:=BT rb oo h1;replace rp:=BT rp oo h1;replace rq:=BT rq oo h1;clear rga rgb ro hown h1;have ro:=ro';have hown:=hown';clear ro' hown';have sa:=RF5 ra;have sb:=RF5 rb;have sp:=RF2 rp;have sq:=RF2 rq;have so:=kd ro;go_wp2;go_roundw
      case rel=>exact⟨i+1,k+1,p',c',qba o x.s z,by go_num,by go_num,oo,oo,hid (by rw[HL.out,HS.out,qV]),HK,hown,BW,RW8,RW8,RW8,RW8,RW8⟩
      case measure=>exact El
     ·have hc:¬ C:=fun h=>hz (HKS.out.1 (HNO.out h).1).2.2.1
      have HE:=hf hc;have GS:=GS hm hn hz;have ML:=ML hm;have MR:=MR hn;go_upto_region 5 with fail;exact ye 25 [true,true,true,true,true,true,true,true,true,true,true,true,true,true,true,true,true,true,true,true,true,true,true,true,true,false,false] [.val (.func (.func 118) #[] #[.pointer (some ⟨w.heap.size+1+1+1+1,0,none⟩)]),.val (.pointer (some ⟨w.heap.size,2,none⟩)),.val (.slice (some ⟨ga,0,none⟩) n ca),.val (.int .i64 (i:Int)),.val (.pointer (some ⟨ga,i*3,none⟩)),.val (.pointer (some ⟨ga,i*3,none⟩)),.val (.int .i64 (x.s:Int)),.val (Ac p),.val (.pointer (some ⟨w.heap.size,2,none⟩)),.val (.slice (some ⟨ga,0,none⟩) n ca),.val (.int .i64 (i:Int)),.val (.pointer (some ⟨ga,i*3,none⟩)),.val (.pointer (some ⟨ga,i*3+1,none⟩)),.val (Ac x.c),.val (Ac x.c),.val (Ac zx),.val (Ac q),.val (.pointer (some ⟨w.heap.size+1,2,none⟩)),.val (.slice (some ⟨gb,0,none⟩) m cb),.val (.int .i64 (k:Int)),.val (.pointer (some ⟨gb,k*3,none⟩)),.val (.pointer (some ⟨gb,k*3+1,none⟩)),.val (Ac y.c),.val (Ac y.c),.val (Ac zy),.val undef,.val undef] (ji a1 w) kr9 kr9 trivial (bC qi0 (bC qi0 (bC (qi1 fun X h=>RF5 (Ae ra h)) (bC qi0 (bC (qif hiI) (bC qi0 (bC (qi1 fun X h=>Fga X (Ae rga h)) (bC (qi1 fun X h=>RF2 (Ae rp h)) (bC qi0 (bC (qi1 fun X h=>RF5 (Ae ra h)) (bC qi0 (bC (qif hiI) (bC qi0 (bC (qi1 fun X h=>Fga X (Ae rga h)) (bC qi0 (bC (qi2 fun X h=>ML X (he.below (Em hB h))) (bC (qi1 fun X h=>RF2 (Ae rq h)) (bC qi0 (bC (qi1 fun X h=>RF5 (Ae rb h)) (bC qi0 (bC (qif hkI) (bC qi0 (bC (qi1 fun X h=>Fgb X (Ae rgb h)) (bC qi0 (bC (qi2 fun X h=>MR X (he.below (Em hB h))) (bS9 (bS9 trivial))))))))))))))))))))))))))) (qhf rfl (fun X h=>ko (Em hB h) (GS X (HE.below (Em hB h))))) fun e W ⟨h1,h2⟩=>⟨_,h1,fun _ h3=>⟨h3,.inr ⟨hc,rfl,h2⟩⟩⟩
    ·have hc:¬ C:=fun h=>hn (HKS.out.1 (HNO.out h).1).2.1
     have HE:=hf hc;have GR:=GR hn;have ML:=ML hm;go_upto_region 5 with fail;exact ye 24 [true,true,true,true,true,true,true,true,true,true,true,true,true,true,true,true,true,true,true,true,true,true,true,true,false,false,false] [.val (.func (.func 118) #[] #[.pointer (some ⟨w.heap.size+1+1+1+1,0,none⟩)]),.val (.pointer (some ⟨w.heap.size,2,none⟩)),.val (.slice (some ⟨ga,0,none⟩) n ca),.val (.int .i64 (i:Int)),.val (.pointer (some ⟨ga,i*3,none⟩)),.val (.pointer (some ⟨ga,i*3,none⟩)),.val (.int .i64 (x.s:Int)),.val (Ac p),.val (.pointer (some ⟨w.heap.size,2,none⟩)),.val (.slice (some ⟨ga,0,none⟩) n ca),.val (.int .i64 (i:Int)),.val (.pointer (some ⟨ga,i*3,none⟩)),.val (.pointer (some ⟨ga,i*3+1,none⟩)),.val (Ac x.c),.val (Ac x.c),.val (Ac zx),.val (Ac q),.val (.pointer (some ⟨w.heap.size+1,2,none⟩)),.val (.slice (some ⟨gb,0,none⟩) m cb),.val (.int .i64 (k:Int)),.val (.pointer (some ⟨gb,k*3,none⟩)),.val (.pointer (some ⟨gb,k*3+1,none⟩)),.val (Ac y.c),.val (Ac y.c),.val undef,.val undef,.val undef] (ji a1 w) kr9 kr9 trivial (bC qi0 (bC qi0 (bC (qi1 fun X h=>RF5 (Ae ra h)) (bC qi0 (bC (qif hiI) (bC qi0 (bC (qi1 fun X h=>Fga X (Ae rga h)) (bC (qi1 fun X h=>RF2 (Ae rp h)) (bC qi0 (bC (qi1 fun X h=>RF5 (Ae ra h)) (bC qi0 (bC (qif hiI) (bC qi0 (bC (qi1 fun X h=>Fga X (Ae rga h)) (bC qi0 (bC (qi2 fun X h=>ML X (he.below (Em hB h))) (bC (qi1 fun X h=>RF2 (Ae rq h)) (bC qi0 (bC (qi1 fun X h=>RF5 (Ae rb h)) (bC qi0 (bC (qif hkI) (bC qi0 (bC (qi1 fun X h=>Fgb X (Ae rgb h)) (bC qi0 (bS9 (bS9 (bS9 trivial))))))))))))))))))))))))))) (qhf rfl (fun X h=>ko (Em hB h) (GR X (HE.below (Em hB h))))) fun e W ⟨h1,h2⟩=>⟨_,h1,fun _ h3=>⟨h3,.inr ⟨hc,rfl,h2⟩⟩⟩
   ·have hc:¬ C:=fun h=>hm (HKS.out.1 (HNO.out h).1).1
    have HE:=hf hc;have GL:=GL hm;go_upto_region 5 with fail;exact ye 15 [true,true,true,true,true,true,true,true,true,true,true,true,true,true,true,false,true,true,true,true,true,true,true,true,false,false,false] [.val (.func (.func 118) #[] #[.pointer (some ⟨w.heap.size+1+1+1+1,0,none⟩)]),.val (.pointer (some ⟨w.heap.size,2,none⟩)),.val (.slice (some ⟨ga,0,none⟩) n ca),.val (.int .i64 (i:Int)),.val (.pointer (some ⟨ga,i*3,none⟩)),.val (.pointer (some ⟨ga,i*3,none⟩)),.val (.int .i64 (x.s:Int)),.val (Ac p),.val (.pointer (some ⟨w.heap.size,2,none⟩)),.val (.slice (some ⟨ga,0,none⟩) n ca),.val (.int .i64 (i:Int)),.val (.pointer (some ⟨ga,i*3,none⟩)),.val (.pointer (some ⟨ga,i*3+1,none⟩)),.val (Ac x.c),.val (Ac x.c),.val undef,.val (Ac q),.val (.pointer (some ⟨w.heap.size+1,2,none⟩)),.val (.slice (some ⟨gb,0,none⟩) m cb),.val (.int .i64 (k:Int)),.val (.pointer (some ⟨gb,k*3,none⟩)),.val (.pointer (some ⟨gb,k*3+1,none⟩)),.val (Ac y.c),.val (Ac y.c),.val undef,.val undef,.val undef] (ji a1 w) kr9 kr9 trivial (bC qi0 (bC qi0 (bC (qi1 fun X h=>RF5 (Ae ra h)) (bC qi0 (bC (qif hiI) (bC qi0 (bC (qi1 fun X h=>Fga X (Ae rga h)) (bC (qi1 fun X h=>RF2 (Ae rp h)) (bC qi0 (bC (qi1 fun X h=>RF5 (Ae ra h)) (bC qi0 (bC (qif hiI) (bC qi0 (bC (qi1 fun X h=>Fga X (Ae rga h)) (bC qi0 (bS9 (bC (qi1 fun X h=>RF2 (Ae rq h)) (bC qi0 (bC (qi1 fun X h=>RF5 (Ae rb h)) (bC qi0 (bC (qif hkI) (bC qi0 (bC (qi1 fun X h=>Fgb X (Ae rgb h)) (bC qi0 (bS9 (bS9 (bS9 trivial))))))))))))))))))))))))))) (qhf rfl (fun X h=>ko (Em hB h) (GL X (HE.below (Em hB h))))) fun e W ⟨h1,h2⟩=>⟨_,h1,fun _ h3=>⟨h3,.inr ⟨hc,rfl,h2⟩⟩⟩
theorem qcy{p q:Rat}{a b:Frm}(h:LinF p q a b)(la:a.t.length<=100000)(lb:b.t.length<=100000)(pa:En)(ca:Nat)(pb:En)(cb:Nat)(w:World)(hpa:TAt 34 w pa a.t)(hpb:TAt 34 w pb b.t)(he:Env w) :
  Calls prog 68 #[FV a pa ca,FV b pb cb,Q p,Q q] w (za1 p q a b w):=(zbq (a0:=⟨0,0,none⟩) (a1:=⟨0,0,none⟩) h.dp h.dq h.da h.db la lb pa ca pb cb w hpa hpb he fun k=>absurd h.o k).mono fun _ _ k=>k.ok h.o
end Go.Proofs.YtdiecekagiledaaGreatDoor
