/- A loop, round by round: for loops whose number of rounds is known. Chains of. -/
import Derived.Test.YtdiecekagiledaaGreatDoorVDPlain2
import Derived.Test.YtdiecekagiledaaGreatDoorVEnv8
import Derived.Test.YtdiecekagiledaaGreatDoorVQuiet
set_option linter.unusedSimpArgs false
set_option linter.unusedVariables false
set_option maxRecDepth 100000
set_option maxHeartbeats 1000000
namespace Go.Proofs.YtdiecekagiledaaGreatDoor
open Go Go.RowKit Go.Lib Go.Shelf Go.Proofs.Tryz
def zbZ(P:Program)(c:Code)(Q:Exit->Act->World->Prop)(a:Act)(w:World):Prop :=
 ∀(b:Frame) (k:List Item) (cs:List Frame),∃ e a' w',Q e a' w'/\Arrives P (lone (b.at a (.code c :: .inLoop c :: k)) cs w) b k cs e a' w'
theorem yaf{P:Program}{c:Code}{Q:Exit->Act->World->Prop}{a:Act}{w:World}(h:zbZ P c Q a w):(Code.loop c).wp P Q a w :=
 fun b k cs=>let ⟨e,a',w',q,r⟩:=h b k cs;⟨e,a',w',q,.of_steps (.one step_loop) r⟩
theorem kG{P:Program}{c:Code}{Q:Exit->Act->World->Prop}{a:Act}{w:World}(h:c.wp P (Exit.then (zbZ P c Q) Q) a w):zbZ P c Q a w:=by
 intro b k cs;obtain⟨e,a₁,w₁,hq,harr⟩:=h b (.inLoop c :: k) cs
 cases e with
 | normal =>
  obtain⟨e₂,a₂,w₂,hq₂,harr₂⟩:=hq b k cs;exact⟨e₂,a₂,w₂,hq₂,.of_steps (Steps.trans harr (.one step_inLoop)) harr₂⟩
 | exit id=>exact⟨_,a₁,w₁,hq,.pass (x:=.inLoop c) rfl (fun _ _=>.inl (by simp)) harr⟩
 | goto l=>exact⟨_,a₁,w₁,hq,.pass (x:=.inLoop c) rfl (fun _ _=>.inl (by simp)) harr⟩
 | ret=>exact⟨_,a₁,w₁,hq,.pass (x:=.inLoop c) rfl (fun _ _=>.inl (by simp)) harr⟩
 | panic ch=>exact⟨_,a₁,w₁,hq,.pass (x:=.inLoop c) rfl (fun _ _=>.inl (by simp)) harr⟩
 | outgrown=>exact⟨_,a₁,w₁,hq,.pass (x:=.inLoop c) rfl (fun _ _=>.inl (by simp)) harr⟩
theorem Row.cell_lit{W:World}{b:Nat}{vs:Array Value}{t:TypeId}(h:Row W b (.cells vs t))(i:Nat){v:Value}(hv:vs[i]? = some v):W.cell? ⟨b,i,none⟩=some v:=by
 have h2:W.heap[b]? = some (.cells vs t):=h.2;simp[World.cell?,h2,hv]
abbrev DP:=@Row.cell_lit
theorem Row.cell_at{W:World}{b:Nat}{vs:Array Value}{t:TypeId}(h:Row W b (.cells vs t))(i:Nat){v:Value}(hv:vs[i]? = some v):W.cell? ⟨b,i,none⟩=some v:=by
 have h2:W.heap[b]? = some (.cells vs t):=h.2;simp[World.cell?,h2,hv]
abbrev Af:=@Row.cell_at
theorem Eo{W:World}{b:Nat}{cs:Array Value}{T:TypeId}{i j k:Nat}{u v z:Value}(_:Row W b (.cells cs T))(x:cs[i]?=some u)(y:cs[j]?=some v)(q:cs[k]?=some z):∀ X,Row X b (.cells cs T)->(b<X.heap.size/\X.cell? ⟨b,i,none⟩=some u/\X.cell? ⟨b,j,none⟩=some v/\X.cell? ⟨b,k,none⟩=some z):=fun X h=>⟨h.1,Af h _ x,Af h _ y,Af h _ q⟩
theorem Row.set2a{W:World}{b:Nat}{v0 v1 u0:Value}{t:TypeId}(h:Row W b (.cells #[v0,v1] t)):Row (W.setCell ⟨b,0,none⟩ u0) b (.cells #[u0,v1] t):=h.set_same rfl
theorem Row.set2b{W:World}{b:Nat}{v0 v1 u1:Value}{t:TypeId}(h:Row W b (.cells #[v0,v1] t)):Row (W.setCell ⟨b,1,none⟩ u1) b (.cells #[v0,u1] t):=h.set_same rfl
theorem RW{P:Prop}(h:P:=by repeat(first|(with_reducible assumption)|(with_reducible exact jg Ek)|(with_reducible refine AX ?_)|(with_reducible refine Ck ?_ _)|(with_reducible refine AN ?_ _)|(with_reducible apply BO)|(with_reducible apply BD)|(with_reducible apply BE)|(with_reducible apply Bz)|(with_reducible apply BP)|(with_reducible apply Row.set2a)|(with_reducible apply Row.set2b)|(with_reducible refine Ba ?_ _ Ek))):P:=h
theorem BW{P:Prop}(h:P:=by repeat(first|(with_reducible assumption)|(with_reducible exact Au _ _)|(with_reducible refine Below.drew ?_)|(with_reducible refine ze ?_ _)|(with_reducible refine Below.alloc ?_ Ek _)|(with_reducible refine Below.setCell ?_ Ek _))):P:=h
theorem qv0{p:Prop}(h:p:=by intro ρ X qX qc qg qf qt qd;simp[jag,Region.binds]at qd;simp[Region.wanted,jf,yi,execOp,go_sem,vg,qc,qd,qt,Au]):p:=h
theorem qvf{p q:Prop}(y:q)(h:q->p:=by intro y ρ X qX qc qg qf qt qd;simp[jag,Region.binds]at qd;simp[Region.wanted,jf,yi,execOp,go_sem,vg,qc,qd,qt,Au,y]):p:=h y
theorem qv1{p:Prop}{q:World->Prop}{w:World}(y:∀ X,Aa w X->q X)
  (h:(∀ X,Aa w X->q X)->p:=by intro y ρ X qX qc qg qf qt qd;simp[jag,Region.binds]at qd;have y':=y X qX;clear y;simp[Region.wanted,jf,yi,execOp,go_sem,vg,qc,qd,qt,Au,y']):p:=h y
theorem qv2{p:Prop}{P:Program}{F:FuncId}{args:Array Value}{R:World->Ending->World->Prop}{w:World}(y:∀ X,Aa w X->Calls P F args X (R X))
  (h:(∀ X,Aa w X->Calls P F args X (R X))->p:=by intro y ρ X qX qc qg qf qt qd;simp[jag,Region.binds]at qd;simp[Region.wanted,jf,yi,execOp,go_sem,vg,qc,qd,qt,qf];refine⟨Au _ _,(y X qX).mono ?_⟩;rintro e Y⟨rfl,h1⟩;exact⟨_,rfl,rfl,h1⟩):p:=h y
theorem zbv{w:World}{base:Nat}{e:TypeId}{size:Nat}{v:Value}{n:Nat}{xs:List Value}(h:w.ownsRow base e size v n xs){b:Nat}(hb:b<base)(i:Nat)(u:Value):(w.setCell ⟨b,i,none⟩ u).ownsRow base e size v n xs :=
 ownsRow_setCell_other h (a:=⟨b,i,none⟩) (fun he=>by have:=h.lt b he;omega) u
theorem kcu{w:World}{base:Nat}{e:TypeId}{size:Nat}{v:Value}{n:Nat}{xs:List Value}(h:w.ownsRow base e size v n xs):w.drew.ownsRow base e size v n xs:=h
theorem vb1{w:World}{base:Nat}{e:TypeId}{size:Nat}{v:Value}{n:Nat}{xs:List Value}(h:w.ownsRow base e size v n xs)(k:Nat):(w.drewN k).ownsRow base e size v n xs:=h
theorem OW{P:Prop}(h:P:=by repeat(first|(with_reducible assumption)|(with_reducible refine kcu ?_)|(with_reducible refine vb1 ?_ _)|(with_reducible refine World.ownsRow.alloc ?_ _)|(with_reducible refine zbv ?_ Ek _ _))):P:=h
theorem Row.set3{W:World}{b:Nat}{v0 v1 v2 u0 u1 u2:Value}{t:TypeId}(h:Row W b (.cells #[v0,v1,v2] t)) :
  Row (((W.setCell ⟨b,0,none⟩ u0).setCell ⟨b,1,none⟩ u1).setCell ⟨b,2,none⟩ u2) b (.cells #[u0,u1,u2] t):=((h.set_same rfl).set_same rfl).set_same rfl
theorem Row.set5{W:World}{b:Nat}{v0 v1 v2 v3 v4 u0 u1 u2 u3 u4:Value}{t:TypeId}(h:Row W b (.cells #[v0,v1,v2,v3,v4] t)) :
  Row (((((W.setCell ⟨b,0,none⟩ u0).setCell ⟨b,1,none⟩ u1).setCell ⟨b,2,none⟩ u2).setCell ⟨b,3,none⟩ u3).setCell ⟨b,4,none⟩ u4) b (.cells #[u0,u1,u2,u3,u4] t):=((((h.set_same rfl).set_same rfl).set_same rfl).set_same rfl).set_same rfl
abbrev Cv:=@Row.set5
theorem RWh{P:Prop}(h:P:=by repeat(first|(with_reducible assumption)|(with_reducible exact jg Ek)|(with_reducible refine AX ?_)|(with_reducible refine Ck ?_ _)|(with_reducible refine AN ?_ _)|(with_reducible apply Cv)|(with_reducible apply BO)|(with_reducible apply Row.set3)|(with_reducible apply BD)|(with_reducible apply BE)|(with_reducible apply Bz)|(with_reducible apply BP)|(with_reducible apply Row.set2a)|(with_reducible apply Row.set2b)|(with_reducible refine Ba ?_ _ Ek))):P:=h
theorem Row.cell_lit'{W:World}{b:Nat}{vs:Array Value}{t:TypeId}(h:Row W b (.cells vs t))(i:Nat){v:Value}(hv:vs[i]? = some v):W.cell? ⟨b,i,none⟩=some v:=by
 have h2:W.heap[b]? = some (.cells vs t):=h.2;simp[World.cell?,h2,hv]
def HV(h:Hist)(s:Value):Value:=.agg #[.string (S h.rate.num),.string (S (h.rate.den:Int)),s]
structure RT where
 s:Int
 a:ByteArray
 b:ByteArray
def uD(l:List RT)(i:Nat):RT:=l.getD i ⟨0,⟨#[]⟩,⟨#[]⟩⟩
theorem jb8{l:List RT}{i:Nat}(h:i<l.length):uD l i=l[i]:=by unfold uD;rw[Ap,Ay h];rfl
theorem ycA{l:List RT}{i:Nat}(h:i<l.length):l.drop i=uD l i :: l.drop (i+1):=by
 rw[jb8 h];exact Cq h
def uC(t:RT):List Value:=[.int .i64 t.s,.string t.a,.string t.b]
def zm(l:List RT):List Value:=l.flatMap uC
theorem vaI(p:RT):(uC p).length=3:=rfl
theorem zW(p:RT)(l:List RT):zm (p :: l)=uC p++zm l:=rfl
theorem qW(l:List RT):(zm l).length=l.length*3:=by
 induction l with
 | nil=>rfl
 | cons p l ih=>rw[zW,AQ,ih,vaI,AE];omega
theorem qM(l m:List RT):zm (l++m)=zm l++zm m:=by unfold zm;simp
theorem zaJ:∀(l:List RT) (k:Nat),zm (l.take k)=(zm l).take (k*3)
 | [],k=>by simp[zm]
 | p :: l,0=>by simp[zm]
 | p :: l,k+1=>by
  rw[AB,zW,zW,zaJ l k,show(k+1)*3=(uC p).length+k*3 by rw[vaI];omega,List.take_length_add_append]
theorem kaO{l:List RT}{i:Nat}(h:i<l.length)(j:Nat)(hj:j<3):(zm l)[i*3+j]? = (uC (uD l i))[j]? := by
 have e:l=l.take i++uD l i :: l.drop (i+1):=(List.take_append_drop i l).symm.trans (by rw[ycA h]);have e2:zm l=zm (l.take i)++(uC (uD l i)++zm (l.drop (i+1))):=by
  rw[<- zW,<- qM,<- e]
 have hl:(zm (l.take i)).length=i*3:=by rw[qW,Bu,BX oo]
 rw[e2,CM oo,hl,Nat.add_sub_cancel_left,BS (by rw[vaI];exact hj)]
theorem yaO(l:List RT):∀ v∈zm l,v.oneCell'=true:=by
 intro v hv;obtain⟨p,_,hp⟩:=List.mem_flatMap.1 hv;simp only[uC,Bd,Bf,or_false]at hp;rcases hp with rfl|rfl|rfl<;>rfl
def UAt(T:TypeId)(W:World)(p:En)(l:List RT):Prop:=(l=[]/\(p=none\/∃ g,p=some ⟨g,0,none⟩))\/∃ g cur,p=some ⟨g,0,none⟩/\Row W g (.cells cur T)/\cur.toList.take (l.length*3)=zm l
theorem UAt.below{T:TypeId}{W W':World}{p:En}{l:List RT}(h:UAt T W p l)(hB:Below W.heap.size W W'):UAt T W' p l :=
 h.elim .inl fun⟨g,cur,e,hr,hx⟩=>.inr ⟨g,cur,e,Ae hr hB,hx⟩
abbrev Ai:=@UAt.below
theorem UAt.belowN{n:Nat}{T:TypeId}{W W':World}{g:Nat}{l:List RT}(h:UAt T W (some ⟨g,0,none⟩) l)(hg:g<n)(hB:Below n W W'):UAt T W' (some ⟨g,0,none⟩) l:=by
 rcases h with⟨rfl,h⟩|⟨g',cur,e,hr,hx⟩
 ·exact .inl ⟨rfl,.inr ⟨g,rfl⟩⟩
 ·simp only[Option.some.injEq,Addr.mk.injEq,and_true]at e;subst e;exact .inr ⟨_,cur,rfl,⟨AG hr.1 hB.size,(hB.block _ hg).trans hr.2⟩,hx⟩
theorem UAt.nil(T:TypeId)(W:World):UAt T W none []:=.inl ⟨rfl,.inl rfl⟩
theorem UAt.at{T:TypeId}{W:World}{p:En}{l:List RT}(h:UAt T W p l){i:Nat}(hi:i<l.length):∃ g cur,p=some ⟨g,0,none⟩/\Row W g (.cells cur T)
  /\ cur[i*3]? = some (.int .i64 (uD l i).s)/\cur[i*3+1]? = some (.string (uD l i).a)/\cur[i*3+2]? = some (.string (uD l i).b):=by
 rcases h with⟨rfl,_⟩|⟨g,cur,rfl,hr,hx⟩
 ·simp at hi
 ·have key:∀ j,j<3->cur[i*3+j]? = (uC (uD l i))[j]? := fun j hj=>by
   rw[<- kaO hi j hj,<- hx,AW,if_pos oo,CP]
  exact⟨g,cur,rfl,hr,key 0 oo,key 1 oo,key 2 oo⟩
abbrev Eh:=@UAt.at
theorem UAt.open{T:TypeId}{W:World}{p:En}{l:List RT}(h:UAt T W p l)(h0:0<l.length):∃ g cur,p=some ⟨g,0,none⟩/\Row W g (.cells cur T)
  /\ ∀ i,i<l.length->cur[i*3]? = some (.int .i64 (uD l i).s)/\cur[i*3+1]? = some (.string (uD l i).a)/\cur[i*3+2]? = some (.string (uD l i).b):=by
 rcases h with⟨rfl,_⟩|⟨g,cur,rfl,hr,hx⟩
 ·simp at h0
 ·exact⟨g,cur,rfl,hr,fun i hi=>by
   have key:∀ j,j<3->cur[i*3+j]? = (uC (uD l i))[j]? := fun j hj=>by
    rw[<- kaO hi j hj,<- hx,AW,if_pos oo,CP]
   exact⟨key 0 oo,key 1 oo,key 2 oo⟩⟩
theorem UAt.take{T:TypeId}{W:World}{p:En}{l:List RT}(h:UAt T W p l)(k:Nat):UAt T W p (l.take k):=by
 rcases h with⟨rfl,h⟩|⟨g,cur,rfl,hr,hx⟩
 ·exact .inl ⟨by simp,h⟩
 ·refine .inr ⟨g,cur,rfl,hr,?_⟩;rw[zaJ,<- hx,List.take_take,Bu];congr 1;omega
theorem yaG{W:World}{n k:Nat}{T:TypeId}{p:En}{m c:Nat}{l:List RT}(h:W.ownsRow n T 3 (.slice p m c) k (zm l))(hk:l.length=k):UAt T W p l:=by
 obtain⟨_,⟨he,hn⟩|⟨g,cap,cur,he,_,hg,hc,hm,_,hx⟩⟩:=h
 ·simp only[Value.slice.injEq]at he;obtain⟨rfl,_,_⟩:=he;exact .inl ⟨Bc.1 oo,.inl rfl⟩
 ·simp only[Value.slice.injEq]at he;obtain⟨rfl,_,_⟩:=he;exact .inr ⟨g,cur,rfl,⟨(Ag.1 hg).1,hg⟩,by rw[hk];exact hx⟩
theorem kb8{T U:TypeId}{W:World}{p:En}{l:List RT}{b:Nat}{vs:Array Value}(h:UAt T W p l)(r:Row W b (.cells vs U))(hne:U≠T)(i:Nat)(u:Value):UAt T (W.setCell ⟨b,i,none⟩ u) p l:=by
 rcases h with h|⟨g,cur,rfl,hr,hx⟩
 ·exact .inl h
 ·refine .inr ⟨g,cur,rfl,hr.set_other u (fun e => ?_),hx⟩;subst e;have:=hr.2.symm.trans r.2;simp only[Option.some.injEq,Obj.cells.injEq]at this;exact hne this.2.1.symm
def Trm.raw(t:Trm):RT:=⟨(t.s:Int),S t.c.num,S (t.c.den:Int)⟩
def kN(l:List Trm):List RT:=l.map Trm.raw
theorem kf(l:List Trm):(kN l).length=l.length:=by simp[kN]
theorem qaX(l m:List Trm):kN (l++m)=kN l++kN m:=by simp[kN]
theorem yb4(l:List Trm)(k:Nat):kN (l.take k)=(kN l).take k:=by simp[kN]
theorem yQ{l:List Trm}{i:Nat}(h:i<l.length):uD (kN l) i=(trD l i).raw:=by
 rw[jb8 (by rw[kf];exact h),vN h];simp[kN]
abbrev TAt(T:TypeId)(W:World)(p:En)(l:List Trm):Prop:=UAt T W p (kN l)
theorem TAt.below{T:TypeId}{W W':World}{p:En}{l:List Trm}(h:TAt T W p l)(hB:Below W.heap.size W W'):TAt T W' p l:=Ai h hB
theorem TAt.nil(T:TypeId)(W:World):TAt T W none []:=UAt.nil T W
theorem TAt.at{T:TypeId}{W:World}{p:En}{l:List Trm}(h:TAt T W p l){i:Nat}(hi:i<l.length):∃ g cur,p=some ⟨g,0,none⟩/\Row W g (.cells cur T)
  /\ cur[i*3]? = some (.int .i64 ((trD l i).s:Int))/\cur[i*3+1]? = some (.string (S (trD l i).c.num))/\cur[i*3+2]? = some (.string (S ((trD l i).c.den:Int))):=by
 have:=Eh h (i:=i) (by rw[kf];exact hi);rw[yQ hi]at this;exact this
abbrev Cd:=@TAt.at
theorem TAt.take{T:TypeId}{W:World}{p:En}{l:List Trm}(h:TAt T W p l)(k:Nat):TAt T W p (l.take k):=by
 unfold TAt;rw[yb4];exact UAt.take h k
theorem vat{T U:TypeId}{W:World}{p:En}{l:List Trm}{b:Nat}{vs:Array Value}(h:TAt T W p l)(r:Row W b (.cells vs U))(hne:U≠T)(i:Nat)(u:Value):TAt T (W.setCell ⟨b,i,none⟩ u) p l:=kb8 h r hne i u
theorem Row.set5c{W:World}{b:Nat}{v0 v1 v2 v3 v4 u2:Value}{t:TypeId}(h:Row W b (.cells #[v0,v1,v2,v3,v4] t)):Row (W.setCell ⟨b,2,none⟩ u2) b (.cells #[v0,v1,u2,v3,v4] t):=h.set_same rfl
theorem Row.set5ab{W:World}{b:Nat}{v0 v1 v2 v3 v4 u0 u1:Value}{t:TypeId}(h:Row W b (.cells #[v0,v1,v2,v3,v4] t)):Row ((W.setCell ⟨b,0,none⟩ u0).setCell ⟨b,1,none⟩ u1) b (.cells #[u0,u1,v2,v3,v4] t):=(h.set_same rfl).set_same rfl
theorem Row.set5yz{W:World}{b:Nat}{v0 v1 v2 v3 v4 u3 u4:Value}{t:TypeId}(h:Row W b (.cells #[v0,v1,v2,v3,v4] t)):Row ((W.setCell ⟨b,3,none⟩ u3).setCell ⟨b,4,none⟩ u4) b (.cells #[v0,v1,v2,u3,u4] t):=(h.set_same rfl).set_same rfl
theorem RW8{P:Prop}(h:P:=by repeat(first|(with_reducible assumption)|(with_reducible exact jg Ek)|(with_reducible refine AX ?_)|(with_reducible refine Ck ?_ _)|(with_reducible refine AN ?_ _)|(with_reducible apply Cv)|(with_reducible apply Row.set5c)|(with_reducible apply Row.set5yz)|(with_reducible apply Row.set5ab)|(with_reducible apply BO)|(with_reducible apply Row.set3)|(with_reducible apply BD)|(with_reducible apply BE)|(with_reducible apply Bz)|(with_reducible apply BP)|(with_reducible apply Row.set2a)|(with_reducible apply Row.set2b)|(with_reducible refine Ba ?_ _ Ek))):P:=h
theorem UAt.drew{T:TypeId}{W:World}{p:En}{l:List RT}(h:UAt T W p l):UAt T W.drew p l:=h
theorem UAt.drewN{T:TypeId}{W:World}{p:En}{l:List RT}(h:UAt T W p l)(k:Nat):UAt T (W.drewN k) p l:=h
theorem UAt.alloc{T:TypeId}{W:World}{p:En}{l:List RT}(h:UAt T W p l)(o:Obj):UAt T (W.alloc o) p l :=
 h.elim .inl fun⟨g,cur,e,hr,hx⟩=>.inr ⟨g,cur,e,AN hr o,hx⟩
theorem jby{T U:TypeId}{W:World}{p:En}{l:List RT}{b i:Nat}{vs:Array Value}{u:Value}(h:UAt T W p l)(r:Row W b (.cells vs U))(hne:U≠T):UAt T (W.setCell ⟨b,i,none⟩ u) p l:=kb8 h r hne i u
theorem Row.set_self{W:World}{b i:Nat}{vs:Array Value}{v:Value}{t:TypeId}(h:Row W b (.cells vs t)):Row (W.setCell ⟨b,i,none⟩ v) b (.cells (vs.setIfInBounds i v) t):=h.set_same rfl
theorem TW{P:Prop}(h:P:=by repeat(first|(with_reducible assumption)|(with_reducible refine UAt.drew ?_)|(with_reducible refine UAt.drewN ?_ _)|(with_reducible refine UAt.alloc ?_ _)|(with_reducible apply jby)|(with_reducible exact jg Ek)|(with_reducible refine AX ?_)|(with_reducible refine Ck ?_ _)|(with_reducible refine AN ?_ _)|(with_reducible apply Row.set_self)|(with_reducible refine Ba ?_ _ Ek)|decide)):P:=h
structure EnvA(a0 a:Addr)(w:World):Prop where
 enve:EnvE a0 w
 failsA:w.cell? ⟨0,0,none⟩=some (.iface 275 (.pointer (some a)))
theorem EnvA.env{a0 a:Addr}{w:World}(h:EnvA a0 a w):Env w:=h.enve.env
theorem EnvA.below{a0 a:Addr}{w w':World}(h:EnvA a0 a w)(hb:Aa w w'):EnvA a0 a w':=⟨h.enve.below hb,(hb.cell (World.block_lt_of_cell? _ _ h.failsA)).trans h.failsA⟩
def FV(f:Frm)(p:En)(c:Nat):Value:=.agg #[.string (S f.c.num),.string (S (f.c.den:Int)),.slice p f.t.length c,.string (S f.r.num),.string (S (f.r.den:Int))]
abbrev ybM:TypeId:=34
theorem vn(w:World):Calls prog 57 #[.bool true] w (ja1 w):=by
 go_enter func57,ntmps57;go_wp2;go_end0;exact⟨rfl,Au _ _⟩
theorem vz{a0 a:Addr}(w:World)(he:EnvA a0 a w):Calls prog 57 #[.bool false] w (ji a w):=by
 have hg:=he.failsA;go_enter func57,ntmps57;go_wp2;exact⟨rfl,rfl,Au _ _⟩
theorem jcr{T U:TypeId}{W:World}{p:En}{l:List Trm}{b:Nat}{v0 u0:Value}(h:TAt T W p l)(r:Row W b (.cells #[v0] U))(hne:U≠T):TAt T (W.setCell ⟨b,0,none⟩ u0) p l:=vat h r hne 0 u0
theorem kcr{T U:TypeId}{W:World}{p:En}{l:List Trm}{b:Nat}{v0 v1 v2 v3 v4 u0 u1 u2 u3 u4:Value}(h:TAt T W p l)(r:Row W b (.cells #[v0,v1,v2,v3,v4] U))(hne:U≠T) :
  TAt T (((((W.setCell ⟨b,0,none⟩ u0).setCell ⟨b,1,none⟩ u1).setCell ⟨b,2,none⟩ u2).setCell ⟨b,3,none⟩ u3).setCell ⟨b,4,none⟩ u4) p l:=by
 have r0:=r.set_same (i:=0) (v:=u0) rfl;have r1:=r0.set_same (i:=1) (v:=u1) rfl;have r2:=r1.set_same (i:=2) (v:=u2) rfl;have r3:=r2.set_same (i:=3) (v:=u3) rfl;exact vat (vat (vat (vat (vat h r hne 0 u0) r0 hne 1 u1) r1 hne 2 u2) r2 hne 3 u3) r3 hne 4 u4
theorem Row.cells5{W:World}{b:Nat}{v0 v1 v2 v3 v4:Value}{t:TypeId}(h:Row W b (.cells #[v0,v1,v2,v3,v4] t)) :
  b<W.heap.size/\W.cell? ⟨b,0,none⟩=some v0/\W.cell? ⟨b,1,none⟩=some v1/\W.cell? ⟨b,2,none⟩=some v2/\W.cell? ⟨b,3,none⟩=some v3/\W.cell? ⟨b,4,none⟩=some v4
  /\ W.frozen? ⟨b,0,none⟩=false/\W.frozen? ⟨b,1,none⟩=false/\W.frozen? ⟨b,2,none⟩=false/\W.frozen? ⟨b,3,none⟩=false/\W.frozen? ⟨b,4,none⟩=false :=
 ⟨h.1,DP h 0 rfl,DP h 1 rfl,DP h 2 rfl,DP h 3 rfl,DP h 4 rfl,frozen_of_row _ _ 0 _ _ h.2,frozen_of_row _ _ 1 _ _ h.2,frozen_of_row _ _ 2 _ _ h.2,frozen_of_row _ _ 3 _ _ h.2,frozen_of_row _ _ 4 _ _ h.2⟩
theorem yar:(26:TypeId)≠ybM:=by decide
theorem vch:(38:TypeId)≠ybM:=by decide
def zcJ(Pr:Iv->Prop)(w:World)(e:Ending)(w':World):Prop:=∃ a,Pr a/\e=.returned (I a)/\Aa w w'
def zdc(Pr:Iv->Prop)(w:World)(e:Ending)(w':World):Prop:=∃ a,Pr a/\e=.returned (.tuple #[I a,.int .i64 0])/\Aa w w'
def ycc(w:World)(e:Ending)(w':World):Prop:=e=.returned (.tuple #[.agg #[.string ⟨#[]⟩,.string ⟨#[]⟩,.string ⟨#[]⟩,.string ⟨#[]⟩],.int .i64 80])/\Aa w w'
theorem zbQ(bp bq:Nat)(a0 a:Addr)(older:List PanicEntry)(w:World)(v0 v1 v2 v3 x:Value)(hne:bp≠bq)(hp:Row w bp (.cells #[v0,v1,v2,v3] 44))(hq:Row w bq (.cells #[x] 38))(he:EnvA a0 a w) :
  CallsD prog 94 #[.pointer (some ⟨bp,0,none⟩),.pointer (some ⟨bq,0,none⟩)] (.panicking ({ v:=.iface 275 (.pointer (some a)),recovered:=false } :: older)) w fun e u' w' =>
   e=.returned (.tuple #[])/\u'=.panicking ({ v:=.iface 275 (.pointer (some a)),recovered:=true } :: older)/\Row w' bp oI0/\Row w' bq (.cells #[.int .i64 80] 38)/\∀ n,n<=bp->n<=bq->Below n w w':=by
 have hta:=yaL;have hg:=he.failsA;have sp:=AM hp;obtain⟨sq,cq,fq⟩:=Bi hq;have hne':bq≠bp:=fun h=>hne h.symm
 have np:bp≠w.heap.size:=oo
 have nq:bq≠w.heap.size:=oo
 refine callsD_of_wpS func94 rfl fun c₀ cs hu => ?_
 have e:(#[.pointer (some ⟨bp,0,none⟩),.pointer (some ⟨bq,0,none⟩)]++Array.replicate (f94.ntmps-(#[.pointer (some ⟨bp,0,none⟩),.pointer (some ⟨bq,0,none⟩)]:Array Value).size) undef:Array Value)=#[.pointer (some ⟨bp,0,none⟩),.pointer (some ⟨bq,0,none⟩),undef,undef,undef,undef,undef,undef,undef,undef,undef,undef,undef,undef,undef,undef,undef]:=by kernel_rfl
 rw[e];apply wpS_seq;apply wpS_region;simp[wpOpsS,go_sem,recoverD,hu,Exit.thenS,hta];refine wpS_of_wp ?_;go_hide hQ;go_wp2_with fail;refine(ybX a _).mono ?_;rintro e' w'⟨rfl,rfl⟩;go_wp2;subst hQ;refine⟨rfl,_,rfl,.tuple #[],by simp[results,results94],rfl,rfl,?_,?_,fun n h1 h2 => ?_⟩
 ·repeat(first|(with_reducible exact hp)|(with_reducible exact jg Ek)|(with_reducible refine AX ?_)|(with_reducible refine AN ?_ _)|(with_reducible apply Cv)|(with_reducible apply BO)|(with_reducible apply BD)|(with_reducible apply BE)|(with_reducible apply Bz)|(with_reducible apply BP)|(with_reducible refine Ba ?_ _ Ek))
 ·repeat(first|(with_reducible exact hq)|(with_reducible exact jg Ek)|(with_reducible refine AX ?_)|(with_reducible refine AN ?_ _)|(with_reducible apply Cv)|(with_reducible apply BO)|(with_reducible apply BD)|(with_reducible apply BE)|(with_reducible apply Bz)|(with_reducible apply BP)|(with_reducible refine Ba ?_ _ Ek))
 ·repeat(first|(with_reducible exact Au _ _)|(with_reducible refine Below.drew ?_)|(with_reducible refine Below.alloc ?_ Ek _)|(with_reducible refine Below.setCell ?_ Ek _))
theorem jcO(bp bq:Nat)(w:World) :
  CallsD prog 94 #[.pointer (some ⟨bp,0,none⟩),.pointer (some ⟨bq,0,none⟩)] .returning w fun e u' w'=>e=.returned (.tuple #[])/\u'=.returning/\w'=w:=by
 have hta:=kab;refine callsD_of_wpS func94 rfl fun c₀ cs hu => ?_
 have e:(#[.pointer (some ⟨bp,0,none⟩),.pointer (some ⟨bq,0,none⟩)]++Array.replicate (f94.ntmps-(#[.pointer (some ⟨bp,0,none⟩),.pointer (some ⟨bq,0,none⟩)]:Array Value).size) undef:Array Value)=#[.pointer (some ⟨bp,0,none⟩),.pointer (some ⟨bq,0,none⟩),undef,undef,undef,undef,undef,undef,undef,undef,undef,undef,undef,undef,undef,undef,undef]:=by kernel_rfl
 rw[e];apply wpS_seq;apply wpS_region;simp[wpOpsS,go_sem,recoverD,hu,Exit.thenS,hta];refine wpS_of_wp ?_;go_hide hQ;go_wp2;subst hQ
 cases c₀
 simp_all[bodyPostS,results,results94]
theorem qa2(F:FuncId)(caps:Array Value)(s n:Nat)(Pr:Iv->Prop)(w:World)(eg:∀ args w,(callFunc F args).run prog w=.ok (.enter F args) w)
  (hv:∀ W,Aa w W->Calls prog 96 #[.slice (some ⟨s,0,none⟩) n n,.func (.func 97) #[] #[]] W (qa false W))
  (h:∀ W,Aa w W->Calls prog F caps W (zcJ Pr W)) :
  Calls prog 38 #[.func (.func F) #[] caps,.slice (some ⟨s,0,none⟩) n n] w (zdc Pr w):=by
 have hmf:∀(fn:Fn) (first cap:Array Value) (w:World),(Instr.makeFunc fn first cap).run prog w=.ok (.func fn first cap) w:=fun _ _ _ _=>rfl
 have hB:=Ab w;go_enter_defers func38,ntmps38;go_wp2_with fail;refine za (fun X=>Aa w X/\Row X w.heap.size oI0/\Row X (w.heap.size+1) (.cells #[.int .i64 0] 38)) ⟨(by repeat(first|(with_reducible exact hB)|(with_reducible refine Below.drew ?_)|(with_reducible refine Below.alloc ?_ Ek _)|(with_reducible refine Below.setCell ?_ Ek _))),(by repeat(first|(with_reducible exact jg Ek)|(with_reducible refine AX ?_)|(with_reducible refine AN ?_ _))),(by repeat(first|(with_reducible exact jg Ek)|(with_reducible refine AX ?_)|(with_reducible refine AN ?_ _)))⟩ ?_;clear hB;rintro W1⟨hB,rp,rq⟩;refine(hv _ hB).mono ?_;rintro e W2⟨rfl,h1⟩;replace hB:=Em hB h1;replace rp:=Ae rp h1;replace rq:=Ae rq h1;clear h1;go_wp2_with fail;refine(vn _).mono ?_;rintro e W3⟨rfl,h1⟩;replace hB:=Em hB h1;replace rp:=Ae rp h1;replace rq:=Ae rq h1;clear h1;have h':=h _ hB;clear h hv;go_wp2_with (go_at_fn F;refine h'.mono ?_;rintro e W4⟨a,pa,rfl,h1⟩;replace hB:=Em hB h1;replace rp:=Ae rp h1;replace rq:=Ae rq h1;have sp:=AM rp;obtain⟨sq,cq,fq⟩:=Bi rq;unfold I)
 refine leaves_cons (f:=94) (args:=#[.pointer (some ⟨w.heap.size,0,none⟩),.pointer (some ⟨w.heap.size+1,0,none⟩)]) (by simp) (by simp[go_sem]) ?_;refine(jcO _ _ _).mono ?_;rintro e u' w''⟨rfl,rfl,hw⟩;have sB:=hB.size;obtain⟨hB',rp',rq'⟩:Aa w w''/\Row w'' w.heap.size (oI a.lo a.hi)/\Row w'' (w.heap.size+1) (.cells #[.int .i64 0] 38):=by
  rw[hw];exact⟨(by repeat(first|(with_reducible exact hB)|(with_reducible refine Below.drew ?_)|(with_reducible refine Below.alloc ?_ Ek _)|(with_reducible refine Below.setCell ?_ Ek _))),(by repeat(first|(with_reducible exact rp)|(with_reducible exact jg Ek)|(with_reducible refine AX ?_)|(with_reducible refine AN ?_ _)|(with_reducible apply Cv)|(with_reducible apply BO)|(with_reducible apply BD)|(with_reducible apply BE)|(with_reducible apply Bz)|(with_reducible apply BP)|(with_reducible refine Ba ?_ _ Ek))),(by repeat(first|(with_reducible exact rq)|(with_reducible exact jg Ek)|(with_reducible refine AX ?_)|(with_reducible refine AN ?_ _)|(with_reducible apply Cv)|(with_reducible apply BO)|(with_reducible apply BD)|(with_reducible apply BE)|(with_reducible apply Bz)|(with_reducible apply BP)|(with_reducible refine Ba ?_ _ Ek)))⟩
 clear hw;obtain⟨tp,dp0,dp1,dp2,dp3,_gp0,_gp1,_gp2,_gp3⟩:=AM rp';obtain⟨tq,dq,_gq⟩:=Bi rq';simp only[Leaves,settle];exact⟨.tuple #[.agg #[.string (S a.lo.num),.string (S (a.lo.den:Int)),.string (S a.hi.num),.string (S (a.hi.den:Int))],.int .i64 0],by simp[results,results38,go_sem,dp0,dp1,dp2,dp3,dq],a,pa,rfl,hB'⟩
theorem kaj(F:FuncId)(caps:Array Value)(s n:Nat)(a0 a:Addr)(w:World)(he:EnvA a0 a w)(eg:∀ args w,(callFunc F args).run prog w=.ok (.enter F args) w)
  (hv:∀ W,Aa w W->Calls prog 96 #[.slice (some ⟨s,0,none⟩) n n,.func (.func 97) #[] #[]] W (qa false W))
  (h:∀ W,Aa w W->Calls prog F caps W (ji a W)) :
  Calls prog 38 #[.func (.func F) #[] caps,.slice (some ⟨s,0,none⟩) n n] w (ycc w):=by
 have hmf:∀(fn:Fn) (first cap:Array Value) (w:World),(Instr.makeFunc fn first cap).run prog w=.ok (.func fn first cap) w:=fun _ _ _ _=>rfl
 have hB:=Ab w;go_enter_defers func38,ntmps38;go_wp2_with fail;refine za (fun X=>Aa w X/\Row X w.heap.size oI0/\Row X (w.heap.size+1) (.cells #[.int .i64 0] 38)) ⟨(by repeat(first|(with_reducible exact hB)|(with_reducible refine Below.drew ?_)|(with_reducible refine Below.alloc ?_ Ek _)|(with_reducible refine Below.setCell ?_ Ek _))),(by repeat(first|(with_reducible exact jg Ek)|(with_reducible refine AX ?_)|(with_reducible refine AN ?_ _))),(by repeat(first|(with_reducible exact jg Ek)|(with_reducible refine AX ?_)|(with_reducible refine AN ?_ _)))⟩ ?_;clear hB;rintro W1⟨hB,rp,rq⟩;refine(hv _ hB).mono ?_;rintro e W2⟨rfl,h1⟩;replace hB:=Em hB h1;replace rp:=Ae rp h1;replace rq:=Ae rq h1;clear h1;go_wp2_with fail;refine(vn _).mono ?_;rintro e W3⟨rfl,h1⟩;replace hB:=Em hB h1;replace rp:=Ae rp h1;replace rq:=Ae rq h1;clear h1;have h':=h _ hB;clear h hv;go_wp2_with (go_at_fn F;refine h'.mono ?_;rintro e W4⟨rfl,h1⟩;replace hB:=Em hB h1;replace rp:=Ae rp h1;replace rq:=Ae rq h1)
 refine leaves_cons (f:=94) (args:=#[.pointer (some ⟨w.heap.size,0,none⟩),.pointer (some ⟨w.heap.size+1,0,none⟩)]) (by simp) (by simp[go_sem]) ?_;refine(zbQ _ _ a0 a [] _ _ _ _ _ _ oo rp rq (he.below hB)).mono ?_;rintro e u' w''⟨rfl,rfl,rp',rq',hb⟩;replace hB:=hB.trans (hb w.heap.size oo oo);obtain⟨tp,dp0,dp1,dp2,dp3,_gp0,_gp1,_gp2,_gp3⟩:=AM rp';obtain⟨tq,dq,_gq⟩:=Bi rq';simp only[Leaves,settle,DI];exact⟨.tuple #[.agg #[.string ⟨#[]⟩,.string ⟨#[]⟩,.string ⟨#[]⟩,.string ⟨#[]⟩],.int .i64 80],by simp[results,results38,go_sem,dp0,dp1,dp2,dp3,dq],rfl,hB⟩
def vb9(Pr:Frm->Prop)(w:World)(e:Ending)(w':World):Prop:=∃ a p c,Pr a/\TAt ybM w' p a.t/\e=.returned (FV a p c)/\Aa w w'
def kdb(Pr:Frm->Prop)(w:World)(e:Ending)(w':World):Prop:=∃ a p c,Pr a/\TAt ybM w' p a.t/\e=.returned (.tuple #[FV a p c,.int .i64 0])/\Aa w w'
def qcM(w:World)(e:Ending)(w':World):Prop:=e=.returned (.tuple #[.agg #[.string ⟨#[]⟩,.string ⟨#[]⟩,.slice none 0 0,.string ⟨#[]⟩,.string ⟨#[]⟩],.int .i64 80])/\Aa w w'
theorem zbO(bp bq:Nat)(a0 a:Addr)(older:List PanicEntry)(w:World)(v0 v1 v2 v3 v4 x:Value)(hne:bp≠bq)(hp:Row w bp (.cells #[v0,v1,v2,v3,v4] 26))(hq:Row w bq (.cells #[x] 38))(he:EnvA a0 a w) :
  CallsD prog 116 #[.pointer (some ⟨bp,0,none⟩),.pointer (some ⟨bq,0,none⟩)] (.panicking ({ v:=.iface 275 (.pointer (some a)),recovered:=false } :: older)) w fun e u' w' =>
   e=.returned (.tuple #[])/\u'=.panicking ({ v:=.iface 275 (.pointer (some a)),recovered:=true } :: older)/\Row w' bp oF0/\Row w' bq (.cells #[.int .i64 80] 38)/\∀ n,n<=bp->n<=bq->Below n w w':=by
 have hta:=yaL;have hg:=he.failsA;have sp:=Row.cells5 hp;obtain⟨sq,cq,fq⟩:=Bi hq;have hne':bq≠bp:=fun h=>hne h.symm
 have np:bp≠w.heap.size:=oo
 have nq:bq≠w.heap.size:=oo
 refine callsD_of_wpS func116 rfl fun c₀ cs hu => ?_
 have e:(#[.pointer (some ⟨bp,0,none⟩),.pointer (some ⟨bq,0,none⟩)]++Array.replicate (f116.ntmps-(#[.pointer (some ⟨bp,0,none⟩),.pointer (some ⟨bq,0,none⟩)]:Array Value).size) undef:Array Value)=#[.pointer (some ⟨bp,0,none⟩),.pointer (some ⟨bq,0,none⟩),undef,undef,undef,undef,undef,undef,undef,undef,undef,undef,undef,undef,undef,undef,undef]:=by kernel_rfl
 rw[e];apply wpS_seq;apply wpS_region;simp[wpOpsS,go_sem,recoverD,hu,Exit.thenS,hta];refine wpS_of_wp ?_;go_hide hQ;go_wp2_with fail;refine(ybX a _).mono ?_;rintro e' w'⟨rfl,rfl⟩;go_wp2;subst hQ;refine⟨rfl,_,rfl,.tuple #[],by simp[results,results116],rfl,rfl,?_,?_,fun n h1 h2 => ?_⟩
 ·repeat(first|(with_reducible exact hp)|(with_reducible exact jg Ek)|(with_reducible refine AX ?_)|(with_reducible refine AN ?_ _)|(with_reducible apply Cv)|(with_reducible apply BO)|(with_reducible apply BD)|(with_reducible apply BE)|(with_reducible apply Bz)|(with_reducible apply BP)|(with_reducible refine Ba ?_ _ Ek))
 ·repeat(first|(with_reducible exact hq)|(with_reducible exact jg Ek)|(with_reducible refine AX ?_)|(with_reducible refine AN ?_ _)|(with_reducible apply Cv)|(with_reducible apply BO)|(with_reducible apply BD)|(with_reducible apply BE)|(with_reducible apply Bz)|(with_reducible apply BP)|(with_reducible refine Ba ?_ _ Ek))
 ·repeat(first|(with_reducible exact Au _ _)|(with_reducible refine Below.drew ?_)|(with_reducible refine Below.alloc ?_ Ek _)|(with_reducible refine Below.setCell ?_ Ek _))
theorem jcM(bp bq:Nat)(w:World) :
  CallsD prog 116 #[.pointer (some ⟨bp,0,none⟩),.pointer (some ⟨bq,0,none⟩)] .returning w fun e u' w'=>e=.returned (.tuple #[])/\u'=.returning/\w'=w:=by
 have hta:=kab;refine callsD_of_wpS func116 rfl fun c₀ cs hu => ?_
 have e:(#[.pointer (some ⟨bp,0,none⟩),.pointer (some ⟨bq,0,none⟩)]++Array.replicate (f116.ntmps-(#[.pointer (some ⟨bp,0,none⟩),.pointer (some ⟨bq,0,none⟩)]:Array Value).size) undef:Array Value)=#[.pointer (some ⟨bp,0,none⟩),.pointer (some ⟨bq,0,none⟩),undef,undef,undef,undef,undef,undef,undef,undef,undef,undef,undef,undef,undef,undef,undef]:=by kernel_rfl
 rw[e];apply wpS_seq;apply wpS_region;simp[wpOpsS,go_sem,recoverD,hu,Exit.thenS,hta];refine wpS_of_wp ?_;go_hide hQ;go_wp2;subst hQ
 cases c₀
 simp_all[bodyPostS,results,results116]
theorem qO(F:FuncId)(caps:Array Value)(s n:Nat)(Pr:Frm->Prop)(w:World)(eg:∀ args w,(callFunc F args).run prog w=.ok (.enter F args) w)
  (hv:∀ W,Aa w W->Calls prog 96 #[.slice (some ⟨s,0,none⟩) n n,.func (.func 117) #[] #[]] W (qa false W))
  (h:∀ W,Aa w W->Calls prog F caps W (vb9 Pr W)) :
  Calls prog 66 #[.func (.func F) #[] caps,.slice (some ⟨s,0,none⟩) n n] w (kdb Pr w):=by
 have hmf:∀(fn:Fn) (first cap:Array Value) (w:World),(Instr.makeFunc fn first cap).run prog w=.ok (.func fn first cap) w:=fun _ _ _ _=>rfl
 have hB:=Ab w;go_enter_defers func66,ntmps66;go_wp2_with fail;refine za (fun X=>Aa w X/\Row X w.heap.size oF0/\Row X (w.heap.size+1) (.cells #[.int .i64 0] 38)) ⟨(by repeat(first|(with_reducible exact hB)|(with_reducible refine Below.drew ?_)|(with_reducible refine Below.alloc ?_ Ek _)|(with_reducible refine Below.setCell ?_ Ek _))),(by repeat(first|(with_reducible exact jg Ek)|(with_reducible refine AX ?_)|(with_reducible refine AN ?_ _))),(by repeat(first|(with_reducible exact jg Ek)|(with_reducible refine AX ?_)|(with_reducible refine AN ?_ _)))⟩ ?_;clear hB;rintro W1⟨hB,rp,rq⟩;refine(hv _ hB).mono ?_;rintro e W2⟨rfl,h1⟩;replace hB:=Em hB h1;replace rp:=Ae rp h1;replace rq:=Ae rq h1;clear h1;go_wp2_with fail;refine(vn _).mono ?_;rintro e W3⟨rfl,h1⟩;replace hB:=Em hB h1;replace rp:=Ae rp h1;replace rq:=Ae rq h1;clear h1;have h':=h _ hB;clear h hv;go_wp2_with (go_at_fn F;refine h'.mono ?_;rintro e W4⟨a,p,c,pa,hT,rfl,h1⟩;replace hB:=Em hB h1;replace rp:=Ae rp h1;replace rq:=Ae rq h1;have sp:=Row.cells5 rp;obtain⟨sq,cq,fq⟩:=Bi rq;unfold FV)
 refine leaves_cons (f:=116) (args:=#[.pointer (some ⟨w.heap.size,0,none⟩),.pointer (some ⟨w.heap.size+1,0,none⟩)]) (by simp) (by simp[go_sem]) ?_;refine(jcM _ _ _).mono ?_;rintro e u' w''⟨rfl,rfl,hw⟩;have sB:=hB.size;obtain⟨hB',rp',rq',hT1⟩:Aa w w''/\Row w'' w.heap.size (oF a.c a.r p a.t.length c)/\Row w'' (w.heap.size+1) (.cells #[.int .i64 0] 38)/\TAt ybM w'' p a.t:=by
  rw[hw];exact⟨(by repeat(first|(with_reducible exact hB)|(with_reducible refine Below.drew ?_)|(with_reducible refine Below.alloc ?_ Ek _)|(with_reducible refine Below.setCell ?_ Ek _))),(by repeat(first|(with_reducible exact rp)|(with_reducible exact jg Ek)|(with_reducible refine AX ?_)|(with_reducible refine AN ?_ _)|(with_reducible apply Cv)|(with_reducible apply BO)|(with_reducible apply BD)|(with_reducible apply BE)|(with_reducible apply Bz)|(with_reducible apply BP)|(with_reducible refine Ba ?_ _ Ek))),(by repeat(first|(with_reducible exact rq)|(with_reducible exact jg Ek)|(with_reducible refine AX ?_)|(with_reducible refine AN ?_ _)|(with_reducible apply Cv)|(with_reducible apply BO)|(with_reducible apply BD)|(with_reducible apply BE)|(with_reducible apply Bz)|(with_reducible apply BP)|(with_reducible refine Ba ?_ _ Ek))),jcr (kcr hT rp yar) (U:=38) (v0:=.int .i64 0) (by repeat(first|(with_reducible exact rq)|(with_reducible exact jg Ek)|(with_reducible refine AX ?_)|(with_reducible refine AN ?_ _)|(with_reducible apply Cv)|(with_reducible apply BO)|(with_reducible apply BD)|(with_reducible apply BE)|(with_reducible apply Bz)|(with_reducible apply BP)|(with_reducible refine Ba ?_ _ Ek))) vch⟩
 clear hw;obtain⟨tp,dp0,dp1,dp2,dp3,dp4,_gp0,_gp1,_gp2,_gp3,_gp4⟩:=Row.cells5 rp';obtain⟨tq,dq,_gq⟩:=Bi rq';simp only[Leaves,settle];exact⟨.tuple #[.agg #[.string (S a.c.num),.string (S (a.c.den:Int)),.slice p a.t.length c,.string (S a.r.num),.string (S (a.r.den:Int))],.int .i64 0],by simp[results,results66,go_sem,dp0,dp1,dp2,dp3,dp4,dq],a,p,c,pa,hT1,rfl,hB'⟩
theorem yaP(F:FuncId)(caps:Array Value)(s n:Nat)(a0 a:Addr)(w:World)(he:EnvA a0 a w)(eg:∀ args w,(callFunc F args).run prog w=.ok (.enter F args) w)
  (hv:∀ W,Aa w W->Calls prog 96 #[.slice (some ⟨s,0,none⟩) n n,.func (.func 117) #[] #[]] W (qa false W))
  (h:∀ W,Aa w W->Calls prog F caps W (ji a W)) :
  Calls prog 66 #[.func (.func F) #[] caps,.slice (some ⟨s,0,none⟩) n n] w (qcM w):=by
 have hmf:∀(fn:Fn) (first cap:Array Value) (w:World),(Instr.makeFunc fn first cap).run prog w=.ok (.func fn first cap) w:=fun _ _ _ _=>rfl
 have hB:=Ab w;go_enter_defers func66,ntmps66;go_wp2_with fail;refine za (fun X=>Aa w X/\Row X w.heap.size oF0/\Row X (w.heap.size+1) (.cells #[.int .i64 0] 38)) ⟨(by repeat(first|(with_reducible exact hB)|(with_reducible refine Below.drew ?_)|(with_reducible refine Below.alloc ?_ Ek _)|(with_reducible refine Below.setCell ?_ Ek _))),(by repeat(first|(with_reducible exact jg Ek)|(with_reducible refine AX ?_)|(with_reducible refine AN ?_ _))),(by repeat(first|(with_reducible exact jg Ek)|(with_reducible refine AX ?_)|(with_reducible refine AN ?_ _)))⟩ ?_;clear hB;rintro W1⟨hB,rp,rq⟩;refine(hv _ hB).mono ?_;rintro e W2⟨rfl,h1⟩;replace hB:=Em hB h1;replace rp:=Ae rp h1;replace rq:=Ae rq h1;clear h1;go_wp2_with fail;refine(vn _).mono ?_;rintro e W3⟨rfl,h1⟩;replace hB:=Em hB h1;replace rp:=Ae rp h1;replace rq:=Ae rq h1;clear h1;have h':=h _ hB;clear h hv;go_wp2_with (go_at_fn F;refine h'.mono ?_;rintro e W4⟨rfl,h1⟩;replace hB:=Em hB h1;replace rp:=Ae rp h1;replace rq:=Ae rq h1)
 refine leaves_cons (f:=116) (args:=#[.pointer (some ⟨w.heap.size,0,none⟩),.pointer (some ⟨w.heap.size+1,0,none⟩)]) (by simp) (by simp[go_sem]) ?_;refine(zbO _ _ a0 a [] _ _ _ _ _ _ _ oo rp rq (he.below hB)).mono ?_;rintro e u' w''⟨rfl,rfl,rp',rq',hb⟩;replace hB:=hB.trans (hb w.heap.size oo oo);obtain⟨tp,dp0,dp1,dp2,dp3,dp4,_gp0,_gp1,_gp2,_gp3,_gp4⟩:=Row.cells5 rp';obtain⟨tq,dq,_gq⟩:=Bi rq';simp only[Leaves,settle,DI];exact⟨.tuple #[.agg #[.string ⟨#[]⟩,.string ⟨#[]⟩,.slice none 0 0,.string ⟨#[]⟩,.string ⟨#[]⟩],.int .i64 80],by simp[results,results66,go_sem,dp0,dp1,dp2,dp3,dp4,dq],rfl,hB⟩
def vc2(Pr:Rat->Prop)(w:World)(e:Ending)(w':World):Prop:=∃ a,Pr a/\e=.returned (Q a)/\Aa w w'
def vdb(Pr:Rat->Prop)(w:World)(e:Ending)(w':World):Prop:=∃ a,Pr a/\e=.returned (.tuple #[Q a,.int .i64 0])/\Aa w w'
theorem qcN(bp bq:Nat)(w:World) :
  CallsD prog 121 #[.pointer (some ⟨bp,0,none⟩),.pointer (some ⟨bq,0,none⟩)] .returning w fun e u' w'=>e=.returned (.tuple #[])/\u'=.returning/\w'=w:=by
 have hta:=kab;refine callsD_of_wpS func121 rfl fun c₀ cs hu => ?_
 have e:(#[.pointer (some ⟨bp,0,none⟩),.pointer (some ⟨bq,0,none⟩)]++Array.replicate (f121.ntmps-(#[.pointer (some ⟨bp,0,none⟩),.pointer (some ⟨bq,0,none⟩)]:Array Value).size) undef:Array Value)=#[.pointer (some ⟨bp,0,none⟩),.pointer (some ⟨bq,0,none⟩),undef,undef,undef,undef,undef,undef,undef,undef,undef,undef,undef,undef,undef,undef,undef]:=by kernel_rfl
 rw[e];apply wpS_seq;apply wpS_region;simp[wpOpsS,go_sem,recoverD,hu,Exit.thenS,hta];refine wpS_of_wp ?_;go_hide hQ;go_wp2;subst hQ
 cases c₀
 simp_all[bodyPostS,results,results121]
theorem va1(F:FuncId)(caps:Array Value)(s n:Nat)(Pr:Rat->Prop)(w:World)(eg:∀ args w,(callFunc F args).run prog w=.ok (.enter F args) w)
  (hv:∀ W,Aa w W->Calls prog 96 #[.slice (some ⟨s,0,none⟩) n n,.func (.func 122) #[] #[]] W (qa false W))
  (h:∀ W,Aa w W->Calls prog F caps W (vc2 Pr W)) :
  Calls prog 74 #[.func (.func F) #[] caps,.slice (some ⟨s,0,none⟩) n n] w (vdb Pr w):=by
 have hmf:∀(fn:Fn) (first cap:Array Value) (w:World),(Instr.makeFunc fn first cap).run prog w=.ok (.func fn first cap) w:=fun _ _ _ _=>rfl
 have hB:=Ab w;go_enter_defers func74,ntmps74;go_wp2_with fail;refine za (fun X=>Aa w X/\Row X w.heap.size oR0/\Row X (w.heap.size+1) (.cells #[.int .i64 0] 38)) ⟨(by repeat(first|(with_reducible exact hB)|(with_reducible refine Below.drew ?_)|(with_reducible refine Below.alloc ?_ Ek _)|(with_reducible refine Below.setCell ?_ Ek _))),(by repeat(first|(with_reducible exact jg Ek)|(with_reducible refine AX ?_)|(with_reducible refine AN ?_ _))),(by repeat(first|(with_reducible exact jg Ek)|(with_reducible refine AX ?_)|(with_reducible refine AN ?_ _)))⟩ ?_;clear hB;rintro W1⟨hB,rp,rq⟩;refine(hv _ hB).mono ?_;rintro e W2⟨rfl,h1⟩;replace hB:=Em hB h1;replace rp:=Ae rp h1;replace rq:=Ae rq h1;clear h1;go_wp2_with fail;refine(vn _).mono ?_;rintro e W3⟨rfl,h1⟩;replace hB:=Em hB h1;replace rp:=Ae rp h1;replace rq:=Ae rq h1;clear h1;have h':=h _ hB;clear h hv;go_wp2_with (go_at_fn F;refine h'.mono ?_;rintro e W4⟨a,pa,rfl,h1⟩;replace hB:=Em hB h1;replace rp:=Ae rp h1;replace rq:=Ae rq h1;have sp:=Av rp;obtain⟨sq,cq,fq⟩:=Bi rq;unfold Q)
 refine leaves_cons (f:=121) (args:=#[.pointer (some ⟨w.heap.size,0,none⟩),.pointer (some ⟨w.heap.size+1,0,none⟩)]) (by simp) (by simp[go_sem]) ?_;refine(qcN _ _ _).mono ?_;rintro e u' w''⟨rfl,rfl,hw⟩;have sB:=hB.size;obtain⟨hB',rp',rq'⟩:Aa w w''/\Row w'' w.heap.size (oR a)/\Row w'' (w.heap.size+1) (.cells #[.int .i64 0] 38):=by
  rw[hw];exact⟨(by repeat(first|(with_reducible exact hB)|(with_reducible refine Below.drew ?_)|(with_reducible refine Below.alloc ?_ Ek _)|(with_reducible refine Below.setCell ?_ Ek _))),(by repeat(first|(with_reducible exact rp)|(with_reducible exact jg Ek)|(with_reducible refine AX ?_)|(with_reducible refine AN ?_ _)|(with_reducible apply Cv)|(with_reducible apply BO)|(with_reducible apply BD)|(with_reducible apply BE)|(with_reducible apply Bz)|(with_reducible apply BP)|(with_reducible refine Ba ?_ _ Ek))),(by repeat(first|(with_reducible exact rq)|(with_reducible exact jg Ek)|(with_reducible refine AX ?_)|(with_reducible refine AN ?_ _)|(with_reducible apply Cv)|(with_reducible apply BO)|(with_reducible apply BD)|(with_reducible apply BE)|(with_reducible apply Bz)|(with_reducible apply BP)|(with_reducible refine Ba ?_ _ Ek)))⟩
 clear hw;obtain⟨tp,dp0,dp1,_gp0,_gp1⟩:=Av rp';obtain⟨tq,dq,_gq⟩:=Bi rq';simp only[Leaves,settle];exact⟨.tuple #[Ac a,.int .i64 0],by simp[results,results74,go_sem,dp0,dp1,dq],a,pa,rfl,hB'⟩
end Go.Proofs.YtdiecekagiledaaGreatDoor
