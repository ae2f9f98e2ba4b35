/-
 Arguments that are histories, points and fractions of any strings: what lies in memory.
-/
import Derived.Test.YtnokpldomlmamaaGreatDoorOM12
set_option linter.unusedSimpArgs false
set_option linter.unusedVariables false
set_option maxRecDepth 100000
namespace Go.Proofs.YtnokpldomlmamaaGreatDoor
open Go Go.RowKit Go.Lib Go.ChangeShapes Go.WideShapes
instance:Inhabited RP:=⟨⟨0,⟨#[]⟩,⟨#[]⟩,⟨#[]⟩,⟨#[]⟩⟩⟩
section
variable {H:Type} {enc:TypeId × Value→H} {W:World}
theorem trod_ratio {fuel:Nat} {cs:List Value} {x:DataW H × List MemPlace} (h:DataW.trod enc Tryz.prog W 0 (fun _=>true) true fuel 23 cs=some x):∃ a b,cs=[.string a,.string b]:=by
 obtain ⟨xs,n,_,_,hl,hlen,hf⟩:=DataW.trod_struct Tryz.underlying23 h
 have c2:Tryz.prog.cellsOf 23 = 2:=by kernel_rfl
 have c1:Tryz.prog.cellsOf 9 = 1:=by kernel_rfl
 rw [c2] at hl
 match cs,hl with
 | [u,v],_ =>
  have h0:DataW.trod enc Tryz.prog W 0 (fun _=>true) true n 9 (([u,v].drop 0).take (Tryz.prog.cellsOf 9))=xs[0]? := hf 0 _ rfl
  have h1:DataW.trod enc Tryz.prog W 0 (fun _=>true) true n 9 (([u,v].drop 1).take (Tryz.prog.cellsOf 9))=xs[1]? := hf 1 _ rfl
  rw [c1] at h0
  rw [c1] at h1
  obtain ⟨y0,e0⟩:∃ y,xs[0]? = some y:=⟨xs[0]'(by rw [hlen];decide),List.getElem?_eq_getElem _⟩
  obtain ⟨y1,e1⟩:∃ y,xs[1]? = some y:=⟨xs[1]'(by rw [hlen];decide),List.getElem?_eq_getElem _⟩
  rw [e0] at h0
  rw [e1] at h1
  obtain ⟨a,ea,_,_⟩:=DataW.trod_string Tryz.underlying9 h0
  obtain ⟨b,eb,_,_⟩:=DataW.trod_string Tryz.underlying9 h1
  simp at ea eb
  exact ⟨a,b,by rw [ea,eb]⟩
theorem trod_iv {fuel:Nat} {cs:List Value} {x:DataW H × List MemPlace} (h:DataW.trod enc Tryz.prog W 0 (fun _=>true) true fuel 30 cs=some x):∃ a b c d,cs=[.string a,.string b,.string c,.string d]:=by
 obtain ⟨xs,n,_,_,hl,hlen,hf⟩:=DataW.trod_struct Tryz.underlying30 h
 have c4:Tryz.prog.cellsOf 30 = 4:=by kernel_rfl
 have c2:Tryz.prog.cellsOf 23 = 2:=by kernel_rfl
 rw [c4] at hl
 match cs,hl with
 | [u,v,s,t],_ =>
  have h0:DataW.trod enc Tryz.prog W 0 (fun _=>true) true n 23 (([u,v,s,t].drop 0).take (Tryz.prog.cellsOf 23))=xs[0]? := hf 0 _ rfl
  have h1:DataW.trod enc Tryz.prog W 0 (fun _=>true) true n 23 (([u,v,s,t].drop 2).take (Tryz.prog.cellsOf 23))=xs[1]? := hf 1 _ rfl
  rw [c2] at h0
  rw [c2] at h1
  obtain ⟨y0,e0⟩:∃ y,xs[0]? = some y:=⟨xs[0]'(by rw [hlen];decide),List.getElem?_eq_getElem _⟩
  obtain ⟨y1,e1⟩:∃ y,xs[1]? = some y:=⟨xs[1]'(by rw [hlen];decide),List.getElem?_eq_getElem _⟩
  rw [e0] at h0
  rw [e1] at h1
  obtain ⟨a,b,ea⟩:=trod_ratio h0
  obtain ⟨c,d,eb⟩:=trod_ratio h1
  simp at ea eb
  exact ⟨a,b,c,d,by rw [ea.1,ea.2,eb.1,eb.2]⟩
theorem trod_pt {fuel:Nat} {cs:List Value} {x:DataW H × List MemPlace} (h:DataW.trod enc Tryz.prog W 0 (fun _=>true) true fuel 32 cs=some x):∃ y:RP,cs=rC y∧IsInt y.t:=by
 obtain ⟨xs,n,_,_,hl,hlen,hf⟩:=DataW.trod_struct Tryz.underlying32 h
 have c5:Tryz.prog.cellsOf 32 = 5:=by kernel_rfl
 have c4:Tryz.prog.cellsOf 30 = 4:=by kernel_rfl
 have c1:Tryz.prog.cellsOf 3 = 1:=by kernel_rfl
 rw [c5] at hl
 match cs,hl with
 | [q,u,v,s,t],_ =>
  have h0:DataW.trod enc Tryz.prog W 0 (fun _=>true) true n 3 (([q,u,v,s,t].drop 0).take (Tryz.prog.cellsOf 3))=xs[0]? := hf 0 _ rfl
  have h1:DataW.trod enc Tryz.prog W 0 (fun _=>true) true n 30 (([q,u,v,s,t].drop 1).take (Tryz.prog.cellsOf 30))=xs[1]? := hf 1 _ rfl
  rw [c1] at h0
  rw [c4] at h1
  obtain ⟨y0,e0⟩:∃ y,xs[0]? = some y:=⟨xs[0]'(by rw [hlen];decide),List.getElem?_eq_getElem _⟩
  obtain ⟨y1,e1⟩:∃ y,xs[1]? = some y:=⟨xs[1]'(by rw [hlen];decide),List.getElem?_eq_getElem _⟩
  rw [e0] at h0
  rw [e1] at h1
  obtain ⟨z,ez,_,hz⟩:=DataW.trod_int Tryz.underlying3 h0
  obtain ⟨a,b,c,d,ea⟩:=trod_iv h1
  simp at ez ea
  exact ⟨⟨z,a,b,c,d⟩,by rw [ez,ea.1,ea.2.1,ea.2.2.1,ea.2.2.2];rfl,isInt_wf hz⟩
theorem agg_cells {v:Value} {cs:List Value} (h:v.cells.toList=cs) (ha:∃ xs,v = .agg xs):v = .agg cs.toArray:=by
 obtain ⟨xs,rfl⟩:=ha
 rw [← h]
 simp [Value.cells]
theorem open_ratio {v:Value} {d:DataW H} {ps:List MemPlace} {base:Nat} (hv:Value.okWide Tryz.prog W .any base 23 v) (h:DataW.Trod enc Tryz.prog W 0 (fun _=>true) true 23 v d ps):∃ a b,v = .agg #[.string a,.string b]:=by
 unfold Value.okWide at hv
 rw [Tryz.underlying23] at hv
 obtain ⟨cs,rfl,_,_⟩:=hv
 obtain ⟨fuel,hf⟩:=h
 obtain ⟨a,b,e⟩:=trod_ratio hf
 exact ⟨a,b,agg_cells e ⟨_,rfl⟩⟩
theorem open_pt {v:Value} {d:DataW H} {ps:List MemPlace} {base:Nat} (hv:Value.okWide Tryz.prog W .any base 32 v) (h:DataW.Trod enc Tryz.prog W 0 (fun _=>true) true 32 v d ps):∃ t a b c e,v = .agg #[.int .i64 t,.string a,.string b,.string c,.string e]:=by
 unfold Value.okWide at hv
 rw [Tryz.underlying32] at hv
 obtain ⟨cs,rfl,_,_⟩:=hv
 obtain ⟨fuel,hf⟩:=h
 obtain ⟨y,e,_⟩:=trod_pt hf
 exact ⟨y.t,y.a,y.b,y.c,y.d,agg_cells e ⟨_,rfl⟩⟩
/-- A slice of points, among an argument's cells. -/
theorem trod_pts {fuel:Nat} {v:Value} {x:DataW H × List MemPlace} (h:DataW.trod enc Tryz.prog W 0 (fun _=>true) true fuel 24 [v]=some x):∃ p n c f,v = .slice p n c∧n≤9223372036854775807∧XP W p n f∧∀ i,i<n→IsInt (f i).t:=by
 have ht:Tryz.prog.underlying 24 = some (.slice 32):=Tryz.underlying24
 have hc:Tryz.prog.cellsOf 32 = 5:=by kernel_rfl
 rcases DataW.trod_slice ht h with ⟨h0,_⟩ | ⟨a,n,c,elems,rest,m,_,h0,_,_,hb,hcm,hlen,hx,_⟩
 ·simp at h0
  exact ⟨none,0,0,fun _=>⟨0,⟨#[]⟩,⟨#[]⟩,⟨#[]⟩,⟨#[]⟩⟩,h0,by omega,.inl rfl,by omega⟩
 ·simp at h0
  rw [hc] at hx
  have key:∀ i,i<n→∃ y:RP,(∀ j u,(rC y)[j]? = some u→W.cell? ((a.add (i * 5)).add j)=some u)∧IsInt y.t:=by
   intro i hi
   have h1:=hx i hi
   rw [List.getElem?_eq_getElem (show i<elems.length by omega),Option.bind_eq_some_iff] at h1
   obtain ⟨cs,h2,h3⟩:=h1
   obtain ⟨_,hl,hcell⟩:=World.cells?_some h2
   obtain ⟨y,rfl,hy⟩:=trod_pt h3
   refine ⟨y,fun j u hj => ?_,hy⟩
   have:=hcell j (by rw [← hl];exact (List.getElem?_eq_some_iff.1 hj).1)
   rw [this]
   exact hj
  obtain ⟨F,hF⟩:=Go.Deep.choose_lt (α:=RP) key
  refine ⟨some a,n,c,F,h0,?_,?_,fun i hi=>(hF i hi).2⟩
  ·have:maxLen=9223372036854775807:=by decide
   omega
  ·by_cases hn:n=0
   ·exact .inl hn
   right
   obtain ⟨b,o,s⟩:=a
   have h00:=(hF 0 (by omega)).1 0 _ rfl
   have hs:s=none:=by simpa [Addr.add] using World.cell?_spot h00
   subst hs
   have eb:∀ y x:Nat,(⟨b,y,none⟩:Addr).add x=⟨b,y+x,none⟩:=fun y x=>by unfold Addr.add;split <;> simp_all
   refine ⟨b,o,rfl,by have:=cellLt h00;rwa [eb,eb] at this,fun i hi => ?_⟩
   have hk:=fun j u hj=>(hF i hi).1 j u hj
   simp only [eb] at hk
   exact ⟨hk 0 _ rfl,hk 1 _ rfl,hk 2 _ rfl,hk 3 _ rfl,hk 4 _ rfl⟩
/-- An argument that is a history. -/
theorem open_hist {v:Value} {d:DataW H} {ps:List MemPlace} {base:Nat} (hv:Value.okWide Tryz.prog W .any base 26 v) (h:DataW.Trod enc Tryz.prog W 0 (fun _=>true) true 26 v d ps) :
  ∃ a b p n c f,v = .agg #[.string a,.string b,.slice p n c]∧n≤9223372036854775807∧XP W p n f∧∀ i,i<n→IsInt (f i).t:=by
 unfold Value.okWide at hv
 rw [Tryz.underlying26] at hv
 obtain ⟨cs,rfl,_,_⟩:=hv
 obtain ⟨fuel,hf⟩:=h
 obtain ⟨xs,n,_,_,hl,hlen,hff⟩:=DataW.trod_struct Tryz.underlying26 hf
 have c3:Tryz.prog.cellsOf 26 = 3:=by kernel_rfl
 have c2:Tryz.prog.cellsOf 23 = 2:=by kernel_rfl
 have c1:Tryz.prog.cellsOf 24 = 1:=by kernel_rfl
 rw [c3] at hl
 obtain ⟨ls⟩:=cs
 simp only [Value.cells] at hl hff
 match ls,hl with
 | [u,v,s],_ =>
  have h0:DataW.trod enc Tryz.prog W 0 (fun _=>true) true n 23 (([u,v,s].drop 0).take (Tryz.prog.cellsOf 23))=xs[0]? := hff 0 _ rfl
  have h1:DataW.trod enc Tryz.prog W 0 (fun _=>true) true n 24 (([u,v,s].drop 2).take (Tryz.prog.cellsOf 24))=xs[1]? := hff 1 _ rfl
  rw [c2] at h0
  rw [c1] at h1
  obtain ⟨y0,e0⟩:∃ y,xs[0]? = some y:=⟨xs[0]'(by rw [hlen];decide),List.getElem?_eq_getElem _⟩
  obtain ⟨y1,e1⟩:∃ y,xs[1]? = some y:=⟨xs[1]'(by rw [hlen];decide),List.getElem?_eq_getElem _⟩
  rw [e0] at h0
  rw [e1] at h1
  obtain ⟨a,b,ea⟩:=trod_ratio h0
  obtain ⟨p,m,c,f,es,h2,h3,h4⟩:=trod_pts h1
  simp at ea
  exact ⟨a,b,p,m,c,f,by rw [ea.1,ea.2,es],h2,h3,h4⟩
end
end Go.Proofs.YtnokpldomlmamaaGreatDoor
