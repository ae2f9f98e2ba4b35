/- Arguments that are the integers of a form: a struct of two integers and an. -/
import Derived.Test.YtdiecekagiledaaGreatDoorVR8M
set_option linter.unusedSimpArgs false
set_option linter.unusedVariables false
set_option maxRecDepth 100000
namespace Go.Proofs.YtdiecekagiledaaGreatDoor
open Go Go.RowKit Go.Lib Go.ChangeShapes Go.WideShapes Go.Proofs.Tryz
section
variable {H:Type} {enc:TypeId × Value->H} {W:World}
theorem vah{t:TypeId}{v:Value}{d:DataW H}{ps:List MemPlace}(h:DataW.Trod enc prog W 0 (fun _=>true) true t v d ps):∀ x∈ps,x.block<W.heap.size:=fun x hx=>by
 obtain⟨n,h⟩:=h;exact DataW.trod_lt n _ _ _ h x hx
theorem zcu{α:Type}{l:List α}(h:l.length=6):∃ a b c d e f,l=[a,b,c,d,e,f]:=by
 match l,h with
 | [a,b,c,d,e,f],_=>exact⟨a,b,c,d,e,f,rfl⟩
theorem zby{fuel:Nat}{a b c d e f:Value}{x:DataW H × List MemPlace}(h:DataW.trod enc prog W 0 (fun _=>true) true fuel 27 [a,b,c,d,e,f]=some x):∃ g:Nat->Int,[a,b,c,d,e,f]=[.int .i64 (g 0),.int .i64 (g 1),.int .i64 (g 2),.int .i64 (g 3),.int .i64 (g 4),.int .i64 (g 5)]/\∀ i,i<6->jo (g i):=by
 obtain⟨ys,m,_,hx,_,hl,hi⟩:=DataW.trod_array underlying27 h;have ce:prog.cellsOf 3=1:=by kernel_rfl
 rw[ce]at hi;obtain⟨y0,y1,y2,y3,y4,y5,rfl⟩:=zcu hl;have h0:DataW.trod enc prog W 0 (fun _=>true) true m 3 [a]=some y0:=by simpa using hi 0 oo
 have h1:DataW.trod enc prog W 0 (fun _=>true) true m 3 [b]=some y1:=by simpa using hi 1 oo
 have h2:DataW.trod enc prog W 0 (fun _=>true) true m 3 [c]=some y2:=by simpa using hi 2 oo
 have h3:DataW.trod enc prog W 0 (fun _=>true) true m 3 [d]=some y3:=by simpa using hi 3 oo
 have h4:DataW.trod enc prog W 0 (fun _=>true) true m 3 [e]=some y4:=by simpa using hi 4 oo
 have h5:DataW.trod enc prog W 0 (fun _=>true) true m 3 [f]=some y5:=by simpa using hi 5 oo
 obtain⟨x0,e0,f0,g0⟩:=DataW.trod_int underlying3 h0;obtain⟨x1,e1,f1,g1⟩:=DataW.trod_int underlying3 h1;obtain⟨x2,e2,f2,g2⟩:=DataW.trod_int underlying3 h2;obtain⟨x3,e3,f3,g3⟩:=DataW.trod_int underlying3 h3;obtain⟨x4,e4,f4,g4⟩:=DataW.trod_int underlying3 h4;obtain⟨x5,e5,f5,g5⟩:=DataW.trod_int underlying3 h5;simp only[List.cons.injEq,and_true]at e0 e1 e2 e3 e4 e5;subst e0 e1 e2 e3 e4 e5;refine⟨fun i=>[x0,x1,x2,x3,x4,x5].getD i 0,rfl,fun i hi => ?_⟩;rcases(show i=0\/i=1\/i=2\/i=3\/i=4\/i=5 by omega)with rfl|rfl|rfl|rfl|rfl|rfl
 ·exact zP g0
 ·exact zP g1
 ·exact zP g2
 ·exact zP g3
 ·exact zP g4
 ·exact zP g5
theorem jbb{fuel:Nat}{cs:List Value}{x:DataW H × List MemPlace}(h:DataW.trod enc prog W 0 (fun _=>true) true fuel 29 cs=some x) :
  ∃(c r:Int) (g:Nat->Int),cs=[.int .i64 c,.int .i64 r,.int .i64 (g 0),.int .i64 (g 1),.int .i64 (g 2),.int .i64 (g 3),.int .i64 (g 4),.int .i64 (g 5)]/\jo c/\jo r/\∀ i,i<6->jo (g i):=by
 obtain⟨xs,n,_,_,hl,hlen,hf⟩:=DataW.trod_struct underlying29 h;have c8:prog.cellsOf 29=8:=by kernel_rfl
 have c6:prog.cellsOf 27=6:=by kernel_rfl
 have c1:prog.cellsOf 3=1:=by kernel_rfl
 rw[c8]at hl
 match cs,hl with
 | [p,q,a,b,c,d,e,f],_ =>
  have h0:DataW.trod enc prog W 0 (fun _=>true) true n 3 (([p,q,a,b,c,d,e,f].drop 0).take (prog.cellsOf 3))=xs[0]? := hf 0 _ rfl;have h1:DataW.trod enc prog W 0 (fun _=>true) true n 3 (([p,q,a,b,c,d,e,f].drop 1).take (prog.cellsOf 3))=xs[1]? := hf 1 _ rfl;have h2:DataW.trod enc prog W 0 (fun _=>true) true n 27 (([p,q,a,b,c,d,e,f].drop 2).take (prog.cellsOf 27))=xs[2]? := hf 2 _ rfl;rw[c1]at h0 h1;rw[c6]at h2;obtain⟨y0,e0⟩:∃ y,xs[0]? = some y:=⟨xs[0]'(by rw[hlen];decide),Ay _⟩
  obtain⟨y1,e1⟩:∃ y,xs[1]? = some y:=⟨xs[1]'(by rw[hlen];decide),Ay _⟩
  obtain⟨y2,e2⟩:∃ y,xs[2]? = some y:=⟨xs[2]'(by rw[hlen];decide),Ay _⟩
  rw[e0]at h0;rw[e1]at h1;rw[e2]at h2;obtain⟨z0,ez0,_,hz0⟩:=DataW.trod_int underlying3 h0;obtain⟨z1,ez1,_,hz1⟩:=DataW.trod_int underlying3 h1;obtain⟨g,eg,hg⟩:=zby (a:=a) (b:=b) (c:=c) (d:=d) (e:=e) (f:=f) h2;simp at ez0 ez1;exact⟨z0,z1,g,by rw[ez0,ez1,eg],zP hz0,zP hz1,hg⟩
theorem vap{v:Value}{cs:List Value}(h:v.cells.toList=cs)(ha:∃ xs,v=.agg xs):v=.agg cs.toArray:=by
 obtain⟨xs,rfl⟩:=ha;rw[<- h];simp[Value.cells]
theorem yav{v:Value}{d:DataW H}{ps:List MemPlace}{base:Nat}(hv:Value.okWide prog W .any base 29 v)(h:DataW.Trod enc prog W 0 (fun _=>true) true 29 v d ps) :
  ∃(c r:Int) (g:Nat->Int),v=.agg #[.int .i64 c,.int .i64 r,.int .i64 (g 0),.int .i64 (g 1),.int .i64 (g 2),.int .i64 (g 3),.int .i64 (g 4),.int .i64 (g 5)]/\jo c/\jo r/\∀ i,i<6->jo (g i):=by
 unfold Value.okWide at hv;rw[underlying29]at hv;obtain⟨cs,rfl,_,_⟩:=hv;obtain⟨fuel,hf⟩:=h;obtain⟨c,r,g,e,h1,h2,h3⟩:=jbb hf;exact⟨c,r,g,vap e ⟨_,rfl⟩,h1,h2,h3⟩
theorem ycn{v:Value}{d:DataW H}{ps:List MemPlace}{base:Nat}(hv:Value.okWide prog W .any base 27 v)(h:DataW.Trod enc prog W 0 (fun _=>true) true 27 v d ps) :
  ∃ g:Nat->Int,v=.agg #[.int .i64 (g 0),.int .i64 (g 1),.int .i64 (g 2),.int .i64 (g 3),.int .i64 (g 4),.int .i64 (g 5)]/\∀ i,i<6->jo (g i):=by
 have arrKey6:Go.WideMaps.ArrKey prog 27 3 6:=⟨underlying27,by kernel_rfl,by kernel_rfl,by kernel_rfl⟩
 obtain⟨cs,rfl,hsz⟩:∃ xs:Array Value,v=.agg xs/\xs.size=6:=Go.WideMaps.okWide_arr arrKey6 hv;obtain⟨a,b,c,d',e,f,hl⟩:=zcu (l:=cs.toList) (by simpa using hsz);obtain⟨fuel,hf⟩:=h;have hc:(Value.agg cs).cells.toList=[a,b,c,d',e,f]:=by rw[<- hl];simp[Value.cells]
 rw[hc]at hf;obtain⟨g,e1,h1⟩:=zby hf;refine⟨g,vap (hc.trans e1) ⟨_,rfl⟩,h1⟩
end
end Go.Proofs.YtdiecekagiledaaGreatDoor
namespace Go.Proofs.YtdiecekagiledaaGreatDoor
open Go Go.RowKit Go.Lib Go.ChangeShapes Go.WideShapes Go.Proofs.Tryz
section
variable {H:Type} {enc:TypeId × Value->H} {W:World}
theorem vV{fuel:Nat}{cs:List Value}{x:DataW H × List MemPlace}(h:DataW.trod enc prog W 0 (fun _=>true) true fuel 23 cs=some x):∃ a b,cs=[.string a,.string b]:=by
 obtain⟨xs,n,_,_,hl,hlen,hf⟩:=DataW.trod_struct underlying23 h;have c2:prog.cellsOf 23=2:=by kernel_rfl
 have c1:prog.cellsOf 9=1:=by kernel_rfl
 rw[c2]at hl
 match cs,hl with
 | [u,v],_ =>
  have h0:DataW.trod enc prog W 0 (fun _=>true) true n 9 (([u,v].drop 0).take (prog.cellsOf 9))=xs[0]? := hf 0 _ rfl;have h1:DataW.trod enc prog W 0 (fun _=>true) true n 9 (([u,v].drop 1).take (prog.cellsOf 9))=xs[1]? := hf 1 _ rfl;rw[c1]at h0;rw[c1]at h1;obtain⟨y0,e0⟩:∃ y,xs[0]? = some y:=⟨xs[0]'(by rw[hlen];decide),Ay _⟩
  obtain⟨y1,e1⟩:∃ y,xs[1]? = some y:=⟨xs[1]'(by rw[hlen];decide),Ay _⟩
  rw[e0]at h0;rw[e1]at h1;obtain⟨a,ea,_,_⟩:=DataW.trod_string underlying9 h0;obtain⟨b,eb,_,_⟩:=DataW.trod_string underlying9 h1;simp at ea eb;exact⟨a,b,by rw[ea,eb]⟩
theorem qbK{fuel:Nat}{cs:List Value}{x:DataW H × List MemPlace}(h:DataW.trod enc prog W 0 (fun _=>true) true fuel 34 cs=some x):∃ y:RT,cs=[.int .i64 y.s,.string y.a,.string y.b]:=by
 obtain⟨xs,n,_,_,hl,hlen,hf⟩:=DataW.trod_struct underlying34 h;have c3:prog.cellsOf 34=3:=by kernel_rfl
 have c2:prog.cellsOf 23=2:=by kernel_rfl
 have c1:prog.cellsOf 3=1:=by kernel_rfl
 rw[c3]at hl
 match cs,hl with
 | [q,u,v],_ =>
  have h0:DataW.trod enc prog W 0 (fun _=>true) true n 3 (([q,u,v].drop 0).take (prog.cellsOf 3))=xs[0]? := hf 0 _ rfl;have h1:DataW.trod enc prog W 0 (fun _=>true) true n 23 (([q,u,v].drop 1).take (prog.cellsOf 23))=xs[1]? := hf 1 _ rfl;rw[c1]at h0;rw[c2]at h1;obtain⟨y0,e0⟩:∃ y,xs[0]? = some y:=⟨xs[0]'(by rw[hlen];decide),Ay _⟩
  obtain⟨y1,e1⟩:∃ y,xs[1]? = some y:=⟨xs[1]'(by rw[hlen];decide),Ay _⟩
  rw[e0]at h0;rw[e1]at h1;obtain⟨z,ez,_,_⟩:=DataW.trod_int underlying3 h0;obtain⟨a,b,ea⟩:=vV h1;simp at ez ea;exact⟨⟨z,a,b⟩,by rw[ez,ea.1,ea.2]⟩
theorem zbl{v:Value}{d:DataW H}{ps:List MemPlace}{base:Nat}(hv:Value.okWide prog W .any base 23 v)(h:DataW.Trod enc prog W 0 (fun _=>true) true 23 v d ps):∃ a b,v=.agg #[.string a,.string b]:=by
 unfold Value.okWide at hv;rw[underlying23]at hv;obtain⟨cs,rfl,_,_⟩:=hv;obtain⟨fuel,hf⟩:=h;obtain⟨a,b,e⟩:=vV hf;exact⟨a,b,vap e ⟨_,rfl⟩⟩
theorem zaO{fuel:Nat}{v:Value}{x:DataW H × List MemPlace}(h:DataW.trod enc prog W 0 (fun _=>true) true fuel 24 [v]=some x):∃ p n c f,v=.slice p n c/\n<=9223372036854775807/\XT W p n f:=by
 have ht:prog.underlying 24=some (.slice 34):=underlying24;have hc:prog.cellsOf 34=3:=by kernel_rfl
 rcases DataW.trod_slice ht h with⟨h0,_⟩|⟨a,n,c,elems,rest,m,_,h0,_,_,hb,hcm,hlen,hx,_⟩
 ·simp at h0;exact⟨none,0,0,fun _=>⟨0,⟨#[]⟩,⟨#[]⟩⟩,h0,oo,.inl rfl⟩
 ·simp at h0;rw[hc]at hx;have key:∀ i,i<n->∃ y:RT,∀ j u,([.int .i64 y.s,.string y.a,.string y.b]:List Value)[j]? = some u->W.cell? ((a.add (i*3)).add j)=some u:=by
   intro i hi;have h1:=hx i hi;rw[Ay (show i<elems.length by omega),Option.bind_eq_some_iff]at h1;obtain⟨cs,h2,h3⟩:=h1;obtain⟨_,hl,hcell⟩:=World.cells?_some h2;obtain⟨y,rfl⟩:=qbK h3;refine⟨y,fun j u hj => ?_⟩;have:=hcell j (by rw[<- hl];exact(CQ.1 hj).1);rw[this];exact hj
  haveI:Inhabited RT:=⟨⟨0,⟨#[]⟩,⟨#[]⟩⟩⟩
  obtain⟨F,hF⟩:=Go.Deep.choose_lt (α:=RT) key;refine⟨some a,n,c,F,h0,?_,?_⟩
  ·have:maxLen=9223372036854775807:=by decide
   omega
  ·by_cases hn:n=0
   ·exact .inl hn
   right;obtain⟨b,o,s⟩:=a;have h00:=hF 0 oo 0 _ rfl;have hs:s=none:=by simpa[Addr.add]using World.cell?_spot h00
   subst hs;have eb:∀ y x:Nat,(⟨b,y,none⟩:Addr).add x=⟨b,y+x,none⟩:=fun y x=>by unfold Addr.add;split<;>simp_all
   refine⟨b,o,rfl,by have:=World.block_lt_of_cell? _ _ h00;simpa[eb]using this,fun i hi => ?_⟩;have hk:=fun j u hj=>hF i hi j u hj
   simp only[eb]at hk;exact⟨hk 0 _ rfl,hk 1 _ rfl,hk 2 _ rfl⟩
theorem jbF{v:Value}{d:DataW H}{ps:List MemPlace}{base:Nat}(hv:Value.okWide prog W .any base 24 v)(h:DataW.Trod enc prog W 0 (fun _=>true) true 24 v d ps):∃ p n c f,v=.slice p n c/\n<=9223372036854775807/\XT W p n f:=by
 have ht:prog.underlying 24=some (.slice 34):=underlying24;obtain⟨p,n,c,rfl⟩:=okWide_slice ht hv;obtain⟨fuel,hf⟩:=h;simp only[Value.cells]at hf;exact zaO hf
theorem qa7{v:Value}{d:DataW H}{ps:List MemPlace}{base:Nat}(hv:Value.okWide prog W .any base 26 v)(h:DataW.Trod enc prog W 0 (fun _=>true) true 26 v d ps) :
  ∃ c1 c2 p n c f r1 r2,v=.agg #[.string c1,.string c2,.slice p n c,.string r1,.string r2]/\n<=9223372036854775807/\XT W p n f:=by
 unfold Value.okWide at hv;rw[underlying26]at hv;obtain⟨cs,rfl,_,_⟩:=hv;obtain⟨fuel,hf⟩:=h;obtain⟨xs,n,_,_,hl,hlen,hff⟩:=DataW.trod_struct underlying26 hf;have c5:prog.cellsOf 26=5:=by kernel_rfl
 have c2:prog.cellsOf 23=2:=by kernel_rfl
 have c1:prog.cellsOf 24=1:=by kernel_rfl
 rw[c5]at hl;obtain⟨ls⟩:=cs;simp only[Value.cells]at hl hff
 match ls,hl with
 | [u,v,s,q,t],_ =>
  have h0:DataW.trod enc prog W 0 (fun _=>true) true n 23 (([u,v,s,q,t].drop 0).take (prog.cellsOf 23))=xs[0]? := hff 0 _ rfl;have h1:DataW.trod enc prog W 0 (fun _=>true) true n 24 (([u,v,s,q,t].drop 2).take (prog.cellsOf 24))=xs[1]? := hff 1 _ rfl;have h2:DataW.trod enc prog W 0 (fun _=>true) true n 23 (([u,v,s,q,t].drop 3).take (prog.cellsOf 23))=xs[2]? := hff 2 _ rfl;rw[c2]at h0 h2;rw[c1]at h1;obtain⟨y0,e0⟩:∃ y,xs[0]? = some y:=⟨xs[0]'(by rw[hlen];decide),Ay _⟩
  obtain⟨y1,e1⟩:∃ y,xs[1]? = some y:=⟨xs[1]'(by rw[hlen];decide),Ay _⟩
  obtain⟨y2,e2⟩:∃ y,xs[2]? = some y:=⟨xs[2]'(by rw[hlen];decide),Ay _⟩
  rw[e0]at h0;rw[e1]at h1;rw[e2]at h2;obtain⟨a,b,ea⟩:=vV h0;obtain⟨p,m,c,f,es,h3,h4⟩:=zaO h1;obtain⟨g,k,eg⟩:=vV h2;simp at ea eg;exact⟨a,b,p,m,c,f,g,k,by rw[ea.1,ea.2,es,eg.1,eg.2],h3,h4⟩
end
end Go.Proofs.YtdiecekagiledaaGreatDoor
