/-
 A loop, round by round: for loops whose number of rounds is known. Chains of tactics behind the names of theorems whose last argument is automatic: the chain runs where the name stands. Rows, what lies below, and the obligations of a region whose values are known. Histories in memory: what a slice of points holds; copies within rows of elements of more than one cell. Forms in memory: what a slice of terms (or of sources) holds. Package affine: check, and compute with its deferred closure: a result is handed back; a panic with errFails becomes ErrAffine.
-/
import Derived.Laws.CopyRow
import Derived.Laws.IdiomCopy
import Derived.Maps.AppendAt
import Derived.OneCell
import Derived.Test.YtdikaoahgleffaaGreatDoorWDPlain2
import Derived.Test.YtdikaoahgleffaaGreatDoorWEnv8
import Derived.Test.YtdikaoahgleffaaGreatDoorWQTool
import Derived.Test.YtdikaoahgleffaaGreatDoorWQuiet
set_option linter.unusedSimpArgs false
set_option linter.unusedVariables false
set_option maxRecDepth 100000
set_option maxHeartbeats 1000000
namespace Go.Proofs.YtdikaoahgleffaaGreatDoor
open Go Go.RowKit Go.Lib Go.Shelf
def loopWp (P:Program) (c:Code) (Q:Exit→Act→World→Prop) (a:Act) (w:World):Prop :=
 ∀ (b:Frame) (k:List Item) (cs:List Frame),∃ e a' w',Q e a' w'∧Arrives P (lone (b.at a (.code c :: .inLoop c :: k)) cs w) b k cs e a' w'
theorem wp_loop_unroll {P:Program} {c:Code} {Q:Exit→Act→World→Prop} {a:Act} {w:World} (h:loopWp P c Q a w):(Code.loop c).wp P Q a w :=
 fun b k cs=>let ⟨e,a',w',q,r⟩:=h b k cs;⟨e,a',w',q,.of_steps (.one step_loop) r⟩
theorem loopWp_step {P:Program} {c:Code} {Q:Exit→Act→World→Prop} {a:Act} {w:World} (h:c.wp P (Exit.then (loopWp P c Q) Q) a w):loopWp P c Q a w:=by
 intro b k cs;obtain ⟨e,a₁,w₁,hq,harr⟩:=h b (.inLoop c :: k) cs
 cases e with
 | normal =>
  obtain ⟨e₂,a₂,w₂,hq₂,harr₂⟩:=hq b k cs;exact ⟨e₂,a₂,w₂,hq₂,.of_steps (Steps.trans harr (.one step_inLoop)) harr₂⟩
 | exit id=>exact ⟨_,a₁,w₁,hq,.pass (x := .inLoop c) rfl (fun _ _ => .inl (by simp)) harr⟩
 | goto l=>exact ⟨_,a₁,w₁,hq,.pass (x := .inLoop c) rfl (fun _ _ => .inl (by simp)) harr⟩
 | ret=>exact ⟨_,a₁,w₁,hq,.pass (x := .inLoop c) rfl (fun _ _ => .inl (by simp)) harr⟩
 | panic ch=>exact ⟨_,a₁,w₁,hq,.pass (x := .inLoop c) rfl (fun _ _ => .inl (by simp)) harr⟩
 | outgrown=>exact ⟨_,a₁,w₁,hq,.pass (x := .inLoop c) rfl (fun _ _ => .inl (by simp)) harr⟩
end Go.Proofs.YtdikaoahgleffaaGreatDoor
namespace Go.Proofs.YtdikaoahgleffaaGreatDoor
open Go Go.RowKit Go.Lib Go.Shelf
theorem Row.cell_lit {W:World} {b:Nat} {vs:Array Value} {t:TypeId} (h:Row W b (.cells vs t)) (i:Nat) {v:Value} (hv:vs[i]? = some v):W.cell? ⟨b,i,none⟩=some v:=by
 have h2:W.heap[b]? = some (.cells vs t):=h.2;simp [World.cell?,h2,hv]
theorem Row.cell_at {W:World} {b:Nat} {vs:Array Value} {t:TypeId} (h:Row W b (.cells vs t)) (i:Nat) {v:Value} (hv:vs[i]? = some v):W.cell? ⟨b,i,none⟩=some v:=by
 have h2:W.heap[b]? = some (.cells vs t):=h.2;simp [World.cell?,h2,hv]
theorem Row.set2a {W:World} {b:Nat} {v0 v1 u0:Value} {t:TypeId} (h:Row W b (.cells #[v0,v1] t)):Row (W.setCell ⟨b,0,none⟩ u0) b (.cells #[u0,v1] t):=h.set_same rfl
theorem Row.set2b {W:World} {b:Nat} {v0 v1 u1:Value} {t:TypeId} (h:Row W b (.cells #[v0,v1] t)):Row (W.setCell ⟨b,1,none⟩ u1) b (.cells #[v0,u1] t):=h.set_same rfl
theorem RW {P:Prop} (h:P:=by repeat (first | (with_reducible assumption) | (with_reducible exact row_new' (by first | omega | (simp;done) | (simp;omega))) | (with_reducible refine Row.drew ?_) | (with_reducible refine Row.drewN ?_ _) | (with_reducible refine Row.alloc ?_ _) | (with_reducible apply Row.set4) | (with_reducible apply Row.set4a) | (with_reducible apply Row.set4b) | (with_reducible apply Row.set2) | (with_reducible apply Row.set1) | (with_reducible apply Row.set2a) | (with_reducible apply Row.set2b) | (with_reducible refine Row.set_other ?_ _ (by first | omega | (simp;done) | (simp;omega))))):P:=h
theorem BW {P:Prop} (h:P:=by repeat (first | (with_reducible assumption) | (with_reducible exact Below.refl _ _) | (with_reducible refine Below.drew ?_) | (with_reducible refine below_drewN ?_ _) | (with_reducible refine Below.alloc ?_ (by first | omega | (simp;done) | (simp;omega)) _) | (with_reducible refine Below.setCell ?_ (by first | omega | (simp;done) | (simp;omega)) _))):P:=h
theorem qv0 {p:Prop} (h:p:=by intro ρ X qX qc qg qf qt qd;simp [depsAre,Region.binds] at qd;simp [Region.wanted,yieldedBy,quietly,execOp,go_sem,foreign,qc,qd,qt,Below.refl]):p:=h
theorem qvf {p q:Prop} (y:q) (h:q→p:=by intro y ρ X qX qc qg qf qt qd;simp [depsAre,Region.binds] at qd;simp [Region.wanted,yieldedBy,quietly,execOp,go_sem,foreign,qc,qd,qt,Below.refl,y]):p:=h y
theorem qv1 {p:Prop} {q:World→Prop} {w:World} (y:∀ X,Below w.heap.size w X→q X)
  (h:(∀ X,Below w.heap.size w X→q X)→p:=by intro y ρ X qX qc qg qf qt qd;simp [depsAre,Region.binds] at qd;have y':=y X qX;clear y;simp [Region.wanted,yieldedBy,quietly,execOp,go_sem,foreign,qc,qd,qt,Below.refl,y']):p:=h y
theorem qv2 {p:Prop} {P:Program} {F:FuncId} {args:Array Value} {R:World→Ending→World→Prop} {w:World} (y:∀ X,Below w.heap.size w X→Calls P F args X (R X))
  (h:(∀ X,Below w.heap.size w X→Calls P F args X (R X))→p:=by intro y ρ X qX qc qg qf qt qd;simp [depsAre,Region.binds] at qd;simp [Region.wanted,yieldedBy,quietly,execOp,go_sem,foreign,qc,qd,qt,qf];refine ⟨Below.refl _ _,(y X qX).mono ?_⟩;rintro e Y ⟨rfl,h1⟩;exact ⟨_,rfl,rfl,h1⟩):p:=h y
end Go.Proofs.YtdikaoahgleffaaGreatDoor
namespace Go.Proofs.YtdikaoahgleffaaGreatDoor
open Go Go.RowKit Go.Lib Go.Shelf
theorem own_keep {w:World} {base:Nat} {e:TypeId} {size:Nat} {v:Value} {n:Nat} {xs:List Value} (h:w.ownsRow base e size v n xs) {b:Nat} (hb:b<base) (i:Nat) (u:Value):(w.setCell ⟨b,i,none⟩ u).ownsRow base e size v n xs :=
 ownsRow_setCell_other h (a:=⟨b,i,none⟩) (fun he=>by have:=h.lt b he;omega) u
theorem own_dr {w:World} {base:Nat} {e:TypeId} {size:Nat} {v:Value} {n:Nat} {xs:List Value} (h:w.ownsRow base e size v n xs):w.drew.ownsRow base e size v n xs:=h
theorem own_drN {w:World} {base:Nat} {e:TypeId} {size:Nat} {v:Value} {n:Nat} {xs:List Value} (h:w.ownsRow base e size v n xs) (k:Nat):(w.drewN k).ownsRow base e size v n xs:=h
theorem OW {P:Prop} (h:P:=by repeat (first | (with_reducible assumption) | (with_reducible refine own_dr ?_) | (with_reducible refine own_drN ?_ _) | (with_reducible refine World.ownsRow.alloc ?_ _) | (with_reducible refine own_keep ?_ (by first | omega | (simp;done) | (simp;omega)) _ _))):P:=h
theorem Row.set3 {W:World} {b:Nat} {v0 v1 v2 u0 u1 u2:Value} {t:TypeId} (h:Row W b (.cells #[v0,v1,v2] t)) :
  Row (((W.setCell ⟨b,0,none⟩ u0).setCell ⟨b,1,none⟩ u1).setCell ⟨b,2,none⟩ u2) b (.cells #[u0,u1,u2] t):=((h.set_same rfl).set_same rfl).set_same rfl
theorem Row.set5 {W:World} {b:Nat} {v0 v1 v2 v3 v4 u0 u1 u2 u3 u4:Value} {t:TypeId} (h:Row W b (.cells #[v0,v1,v2,v3,v4] t)) :
  Row (((((W.setCell ⟨b,0,none⟩ u0).setCell ⟨b,1,none⟩ u1).setCell ⟨b,2,none⟩ u2).setCell ⟨b,3,none⟩ u3).setCell ⟨b,4,none⟩ u4) b (.cells #[u0,u1,u2,u3,u4] t):=((((h.set_same rfl).set_same rfl).set_same rfl).set_same rfl).set_same rfl
theorem RWh {P:Prop} (h:P:=by repeat (first | (with_reducible assumption) | (with_reducible exact row_new' (by first | omega | (simp;done) | (simp;omega))) | (with_reducible refine Row.drew ?_) | (with_reducible refine Row.drewN ?_ _) | (with_reducible refine Row.alloc ?_ _) | (with_reducible apply Row.set5) | (with_reducible apply Row.set4) | (with_reducible apply Row.set3) | (with_reducible apply Row.set4a) | (with_reducible apply Row.set4b) | (with_reducible apply Row.set2) | (with_reducible apply Row.set1) | (with_reducible apply Row.set2a) | (with_reducible apply Row.set2b) | (with_reducible refine Row.set_other ?_ _ (by first | omega | (simp;done) | (simp;omega))))):P:=h
theorem Row.cell_lit' {W:World} {b:Nat} {vs:Array Value} {t:TypeId} (h:Row W b (.cells vs t)) (i:Nat) {v:Value} (hv:vs[i]? = some v):W.cell? ⟨b,i,none⟩=some v:=by
 have h2:W.heap[b]? = some (.cells vs t):=h.2;simp [World.cell?,h2,hv]
def HV (h:Hist) (s:Value):Value := .agg #[.string (S h.rate.num),.string (S (h.rate.den:Int)),s]
end Go.Proofs.YtdikaoahgleffaaGreatDoor
namespace Go.Proofs.YtdikaoahgleffaaGreatDoor
open Go Go.RowKit Go.Lib Go.Shelf
structure RT where
 s:Int
 a:ByteArray
 b:ByteArray
def uD (l:List RT) (i:Nat):RT:=l.getD i ⟨0,⟨#[]⟩,⟨#[]⟩⟩
theorem uD_get {l:List RT} {i:Nat} (h:i<l.length):uD l i=l[i]:=by unfold uD;rw [List.getD_eq_getElem?_getD,List.getElem?_eq_getElem h];rfl
theorem drop_uD {l:List RT} {i:Nat} (h:i<l.length):l.drop i=uD l i :: l.drop (i+1):=by
 rw [uD_get h];exact List.drop_eq_getElem_cons h
def uC (t:RT):List Value:=[.int .i64 t.s,.string t.a,.string t.b]
def uCells (l:List RT):List Value:=l.flatMap uC
theorem uC_length (p:RT):(uC p).length=3:=rfl
theorem uCells_cons (p:RT) (l:List RT):uCells (p :: l)=uC p ++ uCells l:=rfl
theorem uCells_length (l:List RT):(uCells l).length=l.length * 3:=by
 induction l with
 | nil=>rfl
 | cons p l ih=>rw [uCells_cons,List.length_append,ih,uC_length,List.length_cons];omega
theorem uCells_app (l m:List RT):uCells (l ++ m)=uCells l ++ uCells m:=by unfold uCells;simp
theorem uCells_take:∀ (l:List RT) (k:Nat),uCells (l.take k)=(uCells l).take (k * 3)
 | [],k=>by simp [uCells]
 | p :: l,0=>by simp [uCells]
 | p :: l,k+1=>by
  rw [List.take_succ_cons,uCells_cons,uCells_cons,uCells_take l k,show (k+1) * 3=(uC p).length+k * 3 by rw [uC_length];omega,List.take_length_add_append]
theorem uCells_get {l:List RT} {i:Nat} (h:i<l.length) (j:Nat) (hj:j<3):(uCells l)[i * 3+j]? = (uC (uD l i))[j]? := by
 have e:l=l.take i ++ uD l i :: l.drop (i+1):=(List.take_append_drop i l).symm.trans (by rw [drop_uD h]);have e2:uCells l=uCells (l.take i) ++ (uC (uD l i) ++ uCells (l.drop (i+1))):=by
  rw [← uCells_cons,← uCells_app,← e]
 have hl:(uCells (l.take i)).length=i * 3:=by rw [uCells_length,List.length_take,Nat.min_eq_left (by omega)]
 rw [e2,List.getElem?_append_right (by omega),hl,Nat.add_sub_cancel_left,List.getElem?_append_left (by rw [uC_length];exact hj)]
theorem uCells_one (l:List RT):∀ v ∈ uCells l,v.oneCell'=true:=by
 intro v hv;obtain ⟨p,_,hp⟩:=List.mem_flatMap.1 hv;simp only [uC,List.mem_cons,List.not_mem_nil,or_false] at hp;rcases hp with rfl | rfl | rfl <;> rfl
def UAt (T:TypeId) (W:World) (p:Option Addr) (l:List RT):Prop:=(l=[]∧(p=none∨∃ g,p=some ⟨g,0,none⟩))∨∃ g cur,p=some ⟨g,0,none⟩∧Row W g (.cells cur T)∧cur.toList.take (l.length * 3)=uCells l
theorem UAt.below {T:TypeId} {W W':World} {p:Option Addr} {l:List RT} (h:UAt T W p l) (hB:Below W.heap.size W W'):UAt T W' p l :=
 h.elim .inl fun ⟨g,cur,e,hr,hx⟩ => .inr ⟨g,cur,e,Row.below hr hB,hx⟩
theorem UAt.belowN {n:Nat} {T:TypeId} {W W':World} {g:Nat} {l:List RT} (h:UAt T W (some ⟨g,0,none⟩) l) (hg:g<n) (hB:Below n W W'):UAt T W' (some ⟨g,0,none⟩) l:=by
 rcases h with ⟨rfl,h⟩ | ⟨g',cur,e,hr,hx⟩
 ·exact .inl ⟨rfl,.inr ⟨g,rfl⟩⟩
 ·simp only [Option.some.injEq,Addr.mk.injEq,and_true] at e;subst e;exact .inr ⟨_,cur,rfl,⟨Nat.lt_of_lt_of_le hr.1 hB.size,(hB.block _ hg).trans hr.2⟩,hx⟩
theorem UAt.nil (T:TypeId) (W:World):UAt T W none [] := .inl ⟨rfl,.inl rfl⟩
theorem UAt.at {T:TypeId} {W:World} {p:Option Addr} {l:List RT} (h:UAt T W p l) {i:Nat} (hi:i<l.length):∃ g cur,p=some ⟨g,0,none⟩∧Row W g (.cells cur T)
  ∧ cur[i * 3]? = some (.int .i64 (uD l i).s)∧cur[i * 3+1]? = some (.string (uD l i).a)∧cur[i * 3+2]? = some (.string (uD l i).b):=by
 rcases h with ⟨rfl,_⟩ | ⟨g,cur,rfl,hr,hx⟩
 ·simp at hi
 ·have key:∀ j,j<3→cur[i * 3+j]? = (uC (uD l i))[j]? := fun j hj=>by
   rw [← uCells_get hi j hj,← hx,List.getElem?_take,if_pos (by omega),Array.getElem?_toList]
  exact ⟨g,cur,rfl,hr,key 0 (by omega),key 1 (by omega),key 2 (by omega)⟩
theorem UAt.open {T:TypeId} {W:World} {p:Option Addr} {l:List RT} (h:UAt T W p l) (h0:0<l.length):∃ g cur,p=some ⟨g,0,none⟩∧Row W g (.cells cur T)
  ∧ ∀ i,i<l.length→cur[i * 3]? = some (.int .i64 (uD l i).s)∧cur[i * 3+1]? = some (.string (uD l i).a)∧cur[i * 3+2]? = some (.string (uD l i).b):=by
 rcases h with ⟨rfl,_⟩ | ⟨g,cur,rfl,hr,hx⟩
 ·simp at h0
 ·exact ⟨g,cur,rfl,hr,fun i hi=>by
   have key:∀ j,j<3→cur[i * 3+j]? = (uC (uD l i))[j]? := fun j hj=>by
    rw [← uCells_get hi j hj,← hx,List.getElem?_take,if_pos (by omega),Array.getElem?_toList]
   exact ⟨key 0 (by omega),key 1 (by omega),key 2 (by omega)⟩⟩
theorem UAt.take {T:TypeId} {W:World} {p:Option Addr} {l:List RT} (h:UAt T W p l) (k:Nat):UAt T W p (l.take k):=by
 rcases h with ⟨rfl,h⟩ | ⟨g,cur,rfl,hr,hx⟩
 ·exact .inl ⟨by simp,h⟩
 ·refine .inr ⟨g,cur,rfl,hr,?_⟩;rw [uCells_take,← hx,List.take_take,List.length_take];congr 1;omega
theorem own_uat {W:World} {n k:Nat} {T:TypeId} {p:Option Addr} {m c:Nat} {l:List RT} (h:W.ownsRow n T 3 (.slice p m c) k (uCells l)) (hk:l.length=k):UAt T W p l:=by
 obtain ⟨_,⟨he,hn⟩ | ⟨g,cap,cur,he,_,hg,hc,hm,_,hx⟩⟩:=h
 ·simp only [Value.slice.injEq] at he;obtain ⟨rfl,_,_⟩:=he;exact .inl ⟨List.length_eq_zero_iff.1 (by omega),.inl rfl⟩
 ·simp only [Value.slice.injEq] at he;obtain ⟨rfl,_,_⟩:=he;exact .inr ⟨g,cur,rfl,⟨(Array.getElem?_eq_some_iff.1 hg).1,hg⟩,by rw [hk];exact hx⟩
theorem uat_set {T U:TypeId} {W:World} {p:Option Addr} {l:List RT} {b:Nat} {vs:Array Value} (h:UAt T W p l) (r:Row W b (.cells vs U)) (hne:U≠T) (i:Nat) (u:Value):UAt T (W.setCell ⟨b,i,none⟩ u) p l:=by
 rcases h with h | ⟨g,cur,rfl,hr,hx⟩
 ·exact .inl h
 ·refine .inr ⟨g,cur,rfl,hr.set_other u (fun e => ?_),hx⟩;subst e;have:=hr.2.symm.trans r.2;simp only [Option.some.injEq,Obj.cells.injEq] at this;exact hne this.2.1.symm
/-! Terms whose strings spell fractions. -/
def Trm.raw (t:Trm):RT:=⟨(t.s:Int),S t.c.num,S (t.c.den:Int)⟩
def raws (l:List Trm):List RT:=l.map Trm.raw
theorem raws_length (l:List Trm):(raws l).length=l.length:=by simp [raws]
theorem raws_app (l m:List Trm):raws (l ++ m)=raws l ++ raws m:=by simp [raws]
theorem raws_take (l:List Trm) (k:Nat):raws (l.take k)=(raws l).take k:=by simp [raws]
theorem raws_at {l:List Trm} {i:Nat} (h:i<l.length):uD (raws l) i=(trD l i).raw:=by
 rw [uD_get (by rw [raws_length];exact h),trD_get h];simp [raws]
abbrev TAt (T:TypeId) (W:World) (p:Option Addr) (l:List Trm):Prop:=UAt T W p (raws l)
theorem TAt.below {T:TypeId} {W W':World} {p:Option Addr} {l:List Trm} (h:TAt T W p l) (hB:Below W.heap.size W W'):TAt T W' p l:=UAt.below h hB
theorem TAt.nil (T:TypeId) (W:World):TAt T W none []:=UAt.nil T W
theorem TAt.at {T:TypeId} {W:World} {p:Option Addr} {l:List Trm} (h:TAt T W p l) {i:Nat} (hi:i<l.length):∃ g cur,p=some ⟨g,0,none⟩∧Row W g (.cells cur T)
  ∧ cur[i * 3]? = some (.int .i64 ((trD l i).s:Int))∧cur[i * 3+1]? = some (.string (S (trD l i).c.num))∧cur[i * 3+2]? = some (.string (S ((trD l i).c.den:Int))):=by
 have:=UAt.at h (i:=i) (by rw [raws_length];exact hi);rw [raws_at hi] at this;exact this
theorem TAt.take {T:TypeId} {W:World} {p:Option Addr} {l:List Trm} (h:TAt T W p l) (k:Nat):TAt T W p (l.take k):=by
 unfold TAt;rw [raws_take];exact UAt.take h k
theorem tat_set {T U:TypeId} {W:World} {p:Option Addr} {l:List Trm} {b:Nat} {vs:Array Value} (h:TAt T W p l) (r:Row W b (.cells vs U)) (hne:U≠T) (i:Nat) (u:Value):TAt T (W.setCell ⟨b,i,none⟩ u) p l:=uat_set h r hne i u
theorem Row.set5c {W:World} {b:Nat} {v0 v1 v2 v3 v4 u2:Value} {t:TypeId} (h:Row W b (.cells #[v0,v1,v2,v3,v4] t)):Row (W.setCell ⟨b,2,none⟩ u2) b (.cells #[v0,v1,u2,v3,v4] t):=h.set_same rfl
theorem Row.set5ab {W:World} {b:Nat} {v0 v1 v2 v3 v4 u0 u1:Value} {t:TypeId} (h:Row W b (.cells #[v0,v1,v2,v3,v4] t)):Row ((W.setCell ⟨b,0,none⟩ u0).setCell ⟨b,1,none⟩ u1) b (.cells #[u0,u1,v2,v3,v4] t):=(h.set_same rfl).set_same rfl
theorem Row.set5yz {W:World} {b:Nat} {v0 v1 v2 v3 v4 u3 u4:Value} {t:TypeId} (h:Row W b (.cells #[v0,v1,v2,v3,v4] t)):Row ((W.setCell ⟨b,3,none⟩ u3).setCell ⟨b,4,none⟩ u4) b (.cells #[v0,v1,v2,u3,u4] t):=(h.set_same rfl).set_same rfl
theorem RW8 {P:Prop} (h:P:=by repeat (first | (with_reducible assumption) | (with_reducible exact row_new' (by first | omega | (simp;done) | (simp;omega))) | (with_reducible refine Row.drew ?_) | (with_reducible refine Row.drewN ?_ _) | (with_reducible refine Row.alloc ?_ _) | (with_reducible apply Row.set5) | (with_reducible apply Row.set5c) | (with_reducible apply Row.set5yz) | (with_reducible apply Row.set5ab) | (with_reducible apply Row.set4) | (with_reducible apply Row.set3) | (with_reducible apply Row.set4a) | (with_reducible apply Row.set4b) | (with_reducible apply Row.set2) | (with_reducible apply Row.set1) | (with_reducible apply Row.set2a) | (with_reducible apply Row.set2b) | (with_reducible refine Row.set_other ?_ _ (by first | omega | (simp;done) | (simp;omega))))):P:=h
theorem UAt.drew {T:TypeId} {W:World} {p:Option Addr} {l:List RT} (h:UAt T W p l):UAt T W.drew p l:=h
theorem UAt.drewN {T:TypeId} {W:World} {p:Option Addr} {l:List RT} (h:UAt T W p l) (k:Nat):UAt T (W.drewN k) p l:=h
theorem UAt.alloc {T:TypeId} {W:World} {p:Option Addr} {l:List RT} (h:UAt T W p l) (o:Obj):UAt T (W.alloc o) p l :=
 h.elim .inl fun ⟨g,cur,e,hr,hx⟩ => .inr ⟨g,cur,e,Row.alloc hr o,hx⟩
theorem uat_set1 {T U:TypeId} {W:World} {p:Option Addr} {l:List RT} {b i:Nat} {vs:Array Value} {u:Value} (h:UAt T W p l) (r:Row W b (.cells vs U)) (hne:U≠T):UAt T (W.setCell ⟨b,i,none⟩ u) p l:=uat_set h r hne i u
theorem Row.set_self {W:World} {b i:Nat} {vs:Array Value} {v:Value} {t:TypeId} (h:Row W b (.cells vs t)):Row (W.setCell ⟨b,i,none⟩ v) b (.cells (vs.setIfInBounds i v) t):=h.set_same rfl
theorem TW {P:Prop} (h:P:=by repeat (first | (with_reducible assumption) | (with_reducible refine UAt.drew ?_) | (with_reducible refine UAt.drewN ?_ _) | (with_reducible refine UAt.alloc ?_ _) | (with_reducible apply uat_set1) | (with_reducible exact row_new' (by first | omega | (simp;done) | (simp;omega))) | (with_reducible refine Row.drew ?_) | (with_reducible refine Row.drewN ?_ _) | (with_reducible refine Row.alloc ?_ _) | (with_reducible apply Row.set_self) | (with_reducible refine Row.set_other ?_ _ (by first | omega | (simp;done) | (simp;omega))) | decide)):P:=h
end Go.Proofs.YtdikaoahgleffaaGreatDoor
namespace Go.Proofs.YtdikaoahgleffaaGreatDoor
open Go Go.RowKit Go.Lib Go.Shelf
structure EnvA (a0 a:Addr) (w:World):Prop where
 enve:EnvE a0 w
 failsA:w.cell? ⟨0, 0,none⟩=some (.iface 274 (.pointer (some a)))
theorem EnvA.env {a0 a:Addr} {w:World} (h:EnvA a0 a w):Env w:=h.enve.env
theorem EnvA.below {a0 a:Addr} {w w':World} (h:EnvA a0 a w) (hb:Below w.heap.size w w'):EnvA a0 a w':=⟨h.enve.below hb,(hb.cell (World.block_lt_of_cell? _ _ h.failsA)).trans h.failsA⟩
def FV (f:Frm) (p:Option Addr) (c:Nat):Value := .agg #[.string (S f.c.num),.string (S (f.c.den:Int)),.slice p f.t.length c,.string (S f.r.num),.string (S (f.r.den:Int))]
abbrev TermT:TypeId := 55
theorem acheck_true (w:World):Calls Tryz.prog 56 #[.bool true] w (UnitOk w):=by
 go_enter Tryz.func56, Tryz.ntmps56;go_wp2;go_end0;exact ⟨rfl,Below.refl _ _⟩
theorem acheck_false {a0 a:Addr} (w:World) (he:EnvA a0 a w):Calls Tryz.prog 56 #[.bool false] w (FailsOk a w):=by
 have hg:=he.failsA;go_enter Tryz.func56, Tryz.ntmps56;go_wp2;exact ⟨rfl,rfl,Below.refl _ _⟩
theorem tat_set1 {T U:TypeId} {W:World} {p:Option Addr} {l:List Trm} {b:Nat} {v0 u0:Value} (h:TAt T W p l) (r:Row W b (.cells #[v0] U)) (hne:U≠T):TAt T (W.setCell ⟨b,0,none⟩ u0) p l:=tat_set h r hne 0 u0
theorem tat_set5 {T U:TypeId} {W:World} {p:Option Addr} {l:List Trm} {b:Nat} {v0 v1 v2 v3 v4 u0 u1 u2 u3 u4:Value} (h:TAt T W p l) (r:Row W b (.cells #[v0,v1,v2,v3,v4] U)) (hne:U≠T) :
  TAt T (((((W.setCell ⟨b,0,none⟩ u0).setCell ⟨b,1,none⟩ u1).setCell ⟨b,2,none⟩ u2).setCell ⟨b,3,none⟩ u3).setCell ⟨b,4,none⟩ u4) p l:=by
 have r0:=r.set_same (i:=0) (v:=u0) rfl;have r1:=r0.set_same (i:=1) (v:=u1) rfl;have r2:=r1.set_same (i:=2) (v:=u2) rfl;have r3:=r2.set_same (i:=3) (v:=u3) rfl;exact tat_set (tat_set (tat_set (tat_set (tat_set h r hne 0 u0) r0 hne 1 u1) r1 hne 2 u2) r2 hne 3 u3) r3 hne 4 u4
theorem Row.cells5 {W:World} {b:Nat} {v0 v1 v2 v3 v4:Value} {t:TypeId} (h:Row W b (.cells #[v0,v1,v2,v3,v4] t)) :
  b<W.heap.size∧W.cell? ⟨b,0,none⟩=some v0∧W.cell? ⟨b,1,none⟩=some v1∧W.cell? ⟨b,2,none⟩=some v2∧W.cell? ⟨b,3,none⟩=some v3∧W.cell? ⟨b,4,none⟩=some v4
  ∧ W.frozen? ⟨b,0,none⟩=false∧W.frozen? ⟨b,1,none⟩=false∧W.frozen? ⟨b,2,none⟩=false∧W.frozen? ⟨b,3,none⟩=false∧W.frozen? ⟨b,4,none⟩=false :=
 ⟨h.1,Row.cell_lit h 0 rfl,Row.cell_lit h 1 rfl,Row.cell_lit h 2 rfl,Row.cell_lit h 3 rfl,Row.cell_lit h 4 rfl,frozen_of_row _ _ 0 _ _ h.2,frozen_of_row _ _ 1 _ _ h.2,frozen_of_row _ _ 2 _ _ h.2,frozen_of_row _ _ 3 _ _ h.2,frozen_of_row _ _ 4 _ _ h.2⟩
theorem form_ne:(30 : TypeId)≠TermT:=by decide
theorem errno_ne:(36 : TypeId)≠TermT:=by decide
/-! compute[yardstick/api.Interval] -/
def avIs (Pr:Iv→Prop) (w:World) (e:Ending) (w':World):Prop:=∃ a,Pr a∧e = .returned (I a)∧Below w.heap.size w w'
def avOk (Pr:Iv→Prop) (w:World) (e:Ending) (w':World):Prop:=∃ a,Pr a∧e = .returned (.tuple #[I a,.int .i64 0])∧Below w.heap.size w w'
theorem avidle (bp bq:Nat) (w:World) :
  CallsD Tryz.prog 119 #[.pointer (some ⟨bp,0,none⟩),.pointer (some ⟨bq,0,none⟩)] .returning w fun e u' w'=>e = .returned (.tuple #[])∧u' = .returning∧w'=w:=by
 have hta:=assert_nil;refine callsD_of_wpS Tryz.func119 rfl fun c₀ cs hu => ?_
 have e:(#[.pointer (some ⟨bp,0,none⟩),.pointer (some ⟨bq,0,none⟩)] ++ Array.replicate (Tryz.f119.ntmps - (#[.pointer (some ⟨bp,0,none⟩),.pointer (some ⟨bq,0,none⟩)]:Array Value).size) undef:Array Value)=#[.pointer (some ⟨bp,0,none⟩),.pointer (some ⟨bq,0,none⟩),undef,undef,undef,undef,undef,undef,undef,undef,undef,undef,undef,undef,undef,undef,undef]:=by kernel_rfl
 rw [e];apply wpS_seq;apply wpS_region;simp [wpOpsS,go_sem,recoverD,hu,Exit.thenS,hta];refine wpS_of_wp ?_;go_hide hQ;go_wp2;subst hQ
 cases c₀
 simp_all [bodyPostS,results,Tryz.results119]
theorem avcompute_ok (F:FuncId) (caps:Array Value) (s n:Nat) (Pr:Iv→Prop) (w:World) (eg:∀ args w,(callFunc F args).run Tryz.prog w = .ok (.enter F args) w)
  (hv:∀ W,Below w.heap.size w W→Calls Tryz.prog 114 #[.slice (some ⟨s,0,none⟩) n n,.func (.func 120) #[] #[]] W (BoolOk false W))
  (h:∀ W,Below w.heap.size w W→Calls Tryz.prog F caps W (avIs Pr W)) :
  Calls Tryz.prog 49 #[.func (.func F) #[] caps,.slice (some ⟨s,0,none⟩) n n] w (avOk Pr w):=by
 have hmf:∀ (fn:Fn) (first cap:Array Value) (w:World),(Instr.makeFunc fn first cap).run Tryz.prog w = .ok (.func fn first cap) w:=fun _ _ _ _=>rfl
 have hB:Below w.heap.size w w:=Below.refl _ _;go_enter_defers Tryz.func49, Tryz.ntmps49;go_wp2_with fail;refine world_cut (fun X=>Below w.heap.size w X∧Row X w.heap.size oI0∧Row X (w.heap.size+1) (.cells #[.int .i64 0] 36)) ⟨(by repeat (first | (with_reducible exact hB) | (with_reducible refine Below.drew ?_) | (with_reducible refine Below.alloc ?_ (by first | omega | (simp;done) | (simp;omega)) _) | (with_reducible refine Below.setCell ?_ (by first | omega | (simp;done) | (simp;omega)) _))),(by repeat (first | (with_reducible exact row_new' (by first | omega | (simp;done) | (simp;omega))) | (with_reducible refine Row.drew ?_) | (with_reducible refine Row.alloc ?_ _))),(by repeat (first | (with_reducible exact row_new' (by first | omega | (simp;done) | (simp;omega))) | (with_reducible refine Row.drew ?_) | (with_reducible refine Row.alloc ?_ _)))⟩ ?_;clear hB;rintro W1 ⟨hB,rp,rq⟩;refine (hv _ hB).mono ?_;rintro e W2 ⟨rfl,h1⟩;replace hB:=hB.trans (h1.mono hB.size);replace rp:=Row.below rp h1;replace rq:=Row.below rq h1;clear h1;go_wp2_with fail;refine (acheck_true _).mono ?_;rintro e W3 ⟨rfl,h1⟩;replace hB:=hB.trans (h1.mono hB.size);replace rp:=Row.below rp h1;replace rq:=Row.below rq h1;clear h1;have h':=h _ hB;clear h hv;go_wp2_with (go_at_fn F;refine h'.mono ?_;rintro e W4 ⟨a,pa,rfl,h1⟩;replace hB:=hB.trans (h1.mono hB.size);replace rp:=Row.below rp h1;replace rq:=Row.below rq h1;have sp:=Row.cells4 rp;obtain ⟨sq,cq,fq⟩:=Row.cells1 rq;unfold I)
 refine leaves_cons (f := 119) (args:=#[.pointer (some ⟨w.heap.size,0,none⟩),.pointer (some ⟨w.heap.size+1,0,none⟩)]) (by simp) (by simp [go_sem]) ?_;refine (avidle _ _ _).mono ?_;rintro e u' w'' ⟨rfl,rfl,hw⟩;have sB:=hB.size;obtain ⟨hB',rp',rq'⟩:Below w.heap.size w w''∧Row w'' w.heap.size (oI a.lo a.hi)∧Row w'' (w.heap.size+1) (.cells #[.int .i64 0] 36):=by
  rw [hw];exact ⟨(by repeat (first | (with_reducible exact hB) | (with_reducible refine Below.drew ?_) | (with_reducible refine Below.alloc ?_ (by first | omega | (simp;done) | (simp;omega)) _) | (with_reducible refine Below.setCell ?_ (by first | omega | (simp;done) | (simp;omega)) _))),(by repeat (first | (with_reducible exact rp) | (with_reducible exact row_new' (by first | omega | (simp;done) | (simp;omega))) | (with_reducible refine Row.drew ?_) | (with_reducible refine Row.alloc ?_ _) | (with_reducible apply Row.set5) | (with_reducible apply Row.set4) | (with_reducible apply Row.set4a) | (with_reducible apply Row.set4b) | (with_reducible apply Row.set2) | (with_reducible apply Row.set1) | (with_reducible refine Row.set_other ?_ _ (by first | omega | (simp;done) | (simp;omega))))),(by repeat (first | (with_reducible exact rq) | (with_reducible exact row_new' (by first | omega | (simp;done) | (simp;omega))) | (with_reducible refine Row.drew ?_) | (with_reducible refine Row.alloc ?_ _) | (with_reducible apply Row.set5) | (with_reducible apply Row.set4) | (with_reducible apply Row.set4a) | (with_reducible apply Row.set4b) | (with_reducible apply Row.set2) | (with_reducible apply Row.set1) | (with_reducible refine Row.set_other ?_ _ (by first | omega | (simp;done) | (simp;omega)))))⟩
 clear hw;obtain ⟨tp,dp0,dp1,dp2,dp3,_gp0,_gp1,_gp2,_gp3⟩:=Row.cells4 rp';obtain ⟨tq,dq,_gq⟩:=Row.cells1 rq';simp only [Leaves,settle];exact ⟨.tuple #[.agg #[.string (S a.lo.num),.string (S (a.lo.den:Int)),.string (S a.hi.num),.string (S (a.hi.den:Int))],.int .i64 0],by simp [results,Tryz.results49, go_sem,dp0,dp1,dp2,dp3,dq],a,pa,rfl,hB'⟩
/-! compute[yardstick/api.Form] -/
def afIs (Pr:Frm→Prop) (w:World) (e:Ending) (w':World):Prop:=∃ a p c,Pr a∧TAt TermT w' p a.t∧e = .returned (FV a p c)∧Below w.heap.size w w'
def afOk (Pr:Frm→Prop) (w:World) (e:Ending) (w':World):Prop:=∃ a p c,Pr a∧TAt TermT w' p a.t∧e = .returned (.tuple #[FV a p c,.int .i64 0])∧Below w.heap.size w w'
def afErr (w:World) (e:Ending) (w':World):Prop:=e = .returned (.tuple #[.agg #[.string ⟨#[]⟩,.string ⟨#[]⟩,.slice none 0 0,.string ⟨#[]⟩,.string ⟨#[]⟩],.int .i64 80])∧Below w.heap.size w w'
theorem afcatch (bp bq:Nat) (a0 a:Addr) (older:List PanicEntry) (w:World) (v0 v1 v2 v3 v4 x:Value) (hne:bp≠bq) (hp:Row w bp (.cells #[v0,v1,v2,v3,v4] 30)) (hq:Row w bq (.cells #[x] 36)) (he:EnvA a0 a w) :
  CallsD Tryz.prog 112 #[.pointer (some ⟨bp,0,none⟩),.pointer (some ⟨bq,0,none⟩)] (.panicking ({ v := .iface 274 (.pointer (some a)),recovered:=false } :: older)) w fun e u' w' =>
   e = .returned (.tuple #[])∧u' = .panicking ({ v := .iface 274 (.pointer (some a)),recovered:=true } :: older)∧Row w' bp oF0∧Row w' bq (.cells #[.int .i64 80] 36)∧∀ n,n≤bp→n≤bq→Below n w w':=by
 have hta:=assert_err;have hg:=he.failsA;have sp:=Row.cells5 hp;obtain ⟨sq,cq,fq⟩:=Row.cells1 hq;have hne':bq≠bp:=fun h=>hne h.symm
 have np:bp≠w.heap.size:=by omega
 have nq:bq≠w.heap.size:=by omega
 refine callsD_of_wpS Tryz.func112 rfl fun c₀ cs hu => ?_
 have e:(#[.pointer (some ⟨bp,0,none⟩),.pointer (some ⟨bq,0,none⟩)] ++ Array.replicate (Tryz.f112.ntmps - (#[.pointer (some ⟨bp,0,none⟩),.pointer (some ⟨bq,0,none⟩)]:Array Value).size) undef:Array Value)=#[.pointer (some ⟨bp,0,none⟩),.pointer (some ⟨bq,0,none⟩),undef,undef,undef,undef,undef,undef,undef,undef,undef,undef,undef,undef,undef,undef,undef]:=by kernel_rfl
 rw [e];apply wpS_seq;apply wpS_region;simp [wpOpsS,go_sem,recoverD,hu,Exit.thenS,hta];refine wpS_of_wp ?_;go_hide hQ;go_wp2_with fail;refine (is_same a _).mono ?_;rintro e' w' ⟨rfl,rfl⟩;go_wp2;subst hQ;refine ⟨rfl,_,rfl,.tuple #[],by simp [results,Tryz.results112],rfl,rfl,?_,?_,fun n h1 h2 => ?_⟩
 ·repeat (first | (with_reducible exact hp) | (with_reducible exact row_new' (by first | omega | (simp;done) | (simp;omega))) | (with_reducible refine Row.drew ?_) | (with_reducible refine Row.alloc ?_ _) | (with_reducible apply Row.set5) | (with_reducible apply Row.set4) | (with_reducible apply Row.set4a) | (with_reducible apply Row.set4b) | (with_reducible apply Row.set2) | (with_reducible apply Row.set1) | (with_reducible refine Row.set_other ?_ _ (by first | omega | (simp;done) | (simp;omega))))
 ·repeat (first | (with_reducible exact hq) | (with_reducible exact row_new' (by first | omega | (simp;done) | (simp;omega))) | (with_reducible refine Row.drew ?_) | (with_reducible refine Row.alloc ?_ _) | (with_reducible apply Row.set5) | (with_reducible apply Row.set4) | (with_reducible apply Row.set4a) | (with_reducible apply Row.set4b) | (with_reducible apply Row.set2) | (with_reducible apply Row.set1) | (with_reducible refine Row.set_other ?_ _ (by first | omega | (simp;done) | (simp;omega))))
 ·repeat (first | (with_reducible exact Below.refl _ _) | (with_reducible refine Below.drew ?_) | (with_reducible refine Below.alloc ?_ (by first | omega | (simp;done) | (simp;omega)) _) | (with_reducible refine Below.setCell ?_ (by first | omega | (simp;done) | (simp;omega)) _))
theorem afidle (bp bq:Nat) (w:World) :
  CallsD Tryz.prog 112 #[.pointer (some ⟨bp,0,none⟩),.pointer (some ⟨bq,0,none⟩)] .returning w fun e u' w'=>e = .returned (.tuple #[])∧u' = .returning∧w'=w:=by
 have hta:=assert_nil;refine callsD_of_wpS Tryz.func112 rfl fun c₀ cs hu => ?_
 have e:(#[.pointer (some ⟨bp,0,none⟩),.pointer (some ⟨bq,0,none⟩)] ++ Array.replicate (Tryz.f112.ntmps - (#[.pointer (some ⟨bp,0,none⟩),.pointer (some ⟨bq,0,none⟩)]:Array Value).size) undef:Array Value)=#[.pointer (some ⟨bp,0,none⟩),.pointer (some ⟨bq,0,none⟩),undef,undef,undef,undef,undef,undef,undef,undef,undef,undef,undef,undef,undef,undef,undef]:=by kernel_rfl
 rw [e];apply wpS_seq;apply wpS_region;simp [wpOpsS,go_sem,recoverD,hu,Exit.thenS,hta];refine wpS_of_wp ?_;go_hide hQ;go_wp2;subst hQ
 cases c₀
 simp_all [bodyPostS,results,Tryz.results112]
theorem afcompute_ok (F:FuncId) (caps:Array Value) (s n:Nat) (Pr:Frm→Prop) (w:World) (eg:∀ args w,(callFunc F args).run Tryz.prog w = .ok (.enter F args) w)
  (hv:∀ W,Below w.heap.size w W→Calls Tryz.prog 114 #[.slice (some ⟨s,0,none⟩) n n,.func (.func 115) #[] #[]] W (BoolOk false W))
  (h:∀ W,Below w.heap.size w W→Calls Tryz.prog F caps W (afIs Pr W)) :
  Calls Tryz.prog 43 #[.func (.func F) #[] caps,.slice (some ⟨s,0,none⟩) n n] w (afOk Pr w):=by
 have hmf:∀ (fn:Fn) (first cap:Array Value) (w:World),(Instr.makeFunc fn first cap).run Tryz.prog w = .ok (.func fn first cap) w:=fun _ _ _ _=>rfl
 have hB:Below w.heap.size w w:=Below.refl _ _;go_enter_defers Tryz.func43, Tryz.ntmps43;go_wp2_with fail;refine world_cut (fun X=>Below w.heap.size w X∧Row X w.heap.size oF0∧Row X (w.heap.size+1) (.cells #[.int .i64 0] 36)) ⟨(by repeat (first | (with_reducible exact hB) | (with_reducible refine Below.drew ?_) | (with_reducible refine Below.alloc ?_ (by first | omega | (simp;done) | (simp;omega)) _) | (with_reducible refine Below.setCell ?_ (by first | omega | (simp;done) | (simp;omega)) _))),(by repeat (first | (with_reducible exact row_new' (by first | omega | (simp;done) | (simp;omega))) | (with_reducible refine Row.drew ?_) | (with_reducible refine Row.alloc ?_ _))),(by repeat (first | (with_reducible exact row_new' (by first | omega | (simp;done) | (simp;omega))) | (with_reducible refine Row.drew ?_) | (with_reducible refine Row.alloc ?_ _)))⟩ ?_;clear hB;rintro W1 ⟨hB,rp,rq⟩;refine (hv _ hB).mono ?_;rintro e W2 ⟨rfl,h1⟩;replace hB:=hB.trans (h1.mono hB.size);replace rp:=Row.below rp h1;replace rq:=Row.below rq h1;clear h1;go_wp2_with fail;refine (acheck_true _).mono ?_;rintro e W3 ⟨rfl,h1⟩;replace hB:=hB.trans (h1.mono hB.size);replace rp:=Row.below rp h1;replace rq:=Row.below rq h1;clear h1;have h':=h _ hB;clear h hv;go_wp2_with (go_at_fn F;refine h'.mono ?_;rintro e W4 ⟨a,p,c,pa,hT,rfl,h1⟩;replace hB:=hB.trans (h1.mono hB.size);replace rp:=Row.below rp h1;replace rq:=Row.below rq h1;have sp:=Row.cells5 rp;obtain ⟨sq,cq,fq⟩:=Row.cells1 rq;unfold FV)
 refine leaves_cons (f := 112) (args:=#[.pointer (some ⟨w.heap.size,0,none⟩),.pointer (some ⟨w.heap.size+1,0,none⟩)]) (by simp) (by simp [go_sem]) ?_;refine (afidle _ _ _).mono ?_;rintro e u' w'' ⟨rfl,rfl,hw⟩;have sB:=hB.size;obtain ⟨hB',rp',rq',hT1⟩:Below w.heap.size w w''∧Row w'' w.heap.size (oF a.c a.r p a.t.length c)∧Row w'' (w.heap.size+1) (.cells #[.int .i64 0] 36)∧TAt TermT w'' p a.t:=by
  rw [hw];exact ⟨(by repeat (first | (with_reducible exact hB) | (with_reducible refine Below.drew ?_) | (with_reducible refine Below.alloc ?_ (by first | omega | (simp;done) | (simp;omega)) _) | (with_reducible refine Below.setCell ?_ (by first | omega | (simp;done) | (simp;omega)) _))),(by repeat (first | (with_reducible exact rp) | (with_reducible exact row_new' (by first | omega | (simp;done) | (simp;omega))) | (with_reducible refine Row.drew ?_) | (with_reducible refine Row.alloc ?_ _) | (with_reducible apply Row.set5) | (with_reducible apply Row.set4) | (with_reducible apply Row.set4a) | (with_reducible apply Row.set4b) | (with_reducible apply Row.set2) | (with_reducible apply Row.set1) | (with_reducible refine Row.set_other ?_ _ (by first | omega | (simp;done) | (simp;omega))))),(by repeat (first | (with_reducible exact rq) | (with_reducible exact row_new' (by first | omega | (simp;done) | (simp;omega))) | (with_reducible refine Row.drew ?_) | (with_reducible refine Row.alloc ?_ _) | (with_reducible apply Row.set5) | (with_reducible apply Row.set4) | (with_reducible apply Row.set4a) | (with_reducible apply Row.set4b) | (with_reducible apply Row.set2) | (with_reducible apply Row.set1) | (with_reducible refine Row.set_other ?_ _ (by first | omega | (simp;done) | (simp;omega))))),tat_set1 (tat_set5 hT rp form_ne) (U := 36) (v0 := .int .i64 0) (by repeat (first | (with_reducible exact rq) | (with_reducible exact row_new' (by first | omega | (simp;done) | (simp;omega))) | (with_reducible refine Row.drew ?_) | (with_reducible refine Row.alloc ?_ _) | (with_reducible apply Row.set5) | (with_reducible apply Row.set4) | (with_reducible apply Row.set4a) | (with_reducible apply Row.set4b) | (with_reducible apply Row.set2) | (with_reducible apply Row.set1) | (with_reducible refine Row.set_other ?_ _ (by first | omega | (simp;done) | (simp;omega))))) errno_ne⟩
 clear hw;obtain ⟨tp,dp0,dp1,dp2,dp3,dp4,_gp0,_gp1,_gp2,_gp3,_gp4⟩:=Row.cells5 rp';obtain ⟨tq,dq,_gq⟩:=Row.cells1 rq';simp only [Leaves,settle];exact ⟨.tuple #[.agg #[.string (S a.c.num),.string (S (a.c.den:Int)),.slice p a.t.length c,.string (S a.r.num),.string (S (a.r.den:Int))],.int .i64 0],by simp [results,Tryz.results43, go_sem,dp0,dp1,dp2,dp3,dp4,dq],a,p,c,pa,hT1,rfl,hB'⟩
theorem afcompute_err (F:FuncId) (caps:Array Value) (s n:Nat) (a0 a:Addr) (w:World) (he:EnvA a0 a w) (eg:∀ args w,(callFunc F args).run Tryz.prog w = .ok (.enter F args) w)
  (hv:∀ W,Below w.heap.size w W→Calls Tryz.prog 114 #[.slice (some ⟨s,0,none⟩) n n,.func (.func 115) #[] #[]] W (BoolOk false W))
  (h:∀ W,Below w.heap.size w W→Calls Tryz.prog F caps W (FailsOk a W)) :
  Calls Tryz.prog 43 #[.func (.func F) #[] caps,.slice (some ⟨s,0,none⟩) n n] w (afErr w):=by
 have hmf:∀ (fn:Fn) (first cap:Array Value) (w:World),(Instr.makeFunc fn first cap).run Tryz.prog w = .ok (.func fn first cap) w:=fun _ _ _ _=>rfl
 have hB:Below w.heap.size w w:=Below.refl _ _;go_enter_defers Tryz.func43, Tryz.ntmps43;go_wp2_with fail;refine world_cut (fun X=>Below w.heap.size w X∧Row X w.heap.size oF0∧Row X (w.heap.size+1) (.cells #[.int .i64 0] 36)) ⟨(by repeat (first | (with_reducible exact hB) | (with_reducible refine Below.drew ?_) | (with_reducible refine Below.alloc ?_ (by first | omega | (simp;done) | (simp;omega)) _) | (with_reducible refine Below.setCell ?_ (by first | omega | (simp;done) | (simp;omega)) _))),(by repeat (first | (with_reducible exact row_new' (by first | omega | (simp;done) | (simp;omega))) | (with_reducible refine Row.drew ?_) | (with_reducible refine Row.alloc ?_ _))),(by repeat (first | (with_reducible exact row_new' (by first | omega | (simp;done) | (simp;omega))) | (with_reducible refine Row.drew ?_) | (with_reducible refine Row.alloc ?_ _)))⟩ ?_;clear hB;rintro W1 ⟨hB,rp,rq⟩;refine (hv _ hB).mono ?_;rintro e W2 ⟨rfl,h1⟩;replace hB:=hB.trans (h1.mono hB.size);replace rp:=Row.below rp h1;replace rq:=Row.below rq h1;clear h1;go_wp2_with fail;refine (acheck_true _).mono ?_;rintro e W3 ⟨rfl,h1⟩;replace hB:=hB.trans (h1.mono hB.size);replace rp:=Row.below rp h1;replace rq:=Row.below rq h1;clear h1;have h':=h _ hB;clear h hv;go_wp2_with (go_at_fn F;refine h'.mono ?_;rintro e W4 ⟨rfl,h1⟩;replace hB:=hB.trans (h1.mono hB.size);replace rp:=Row.below rp h1;replace rq:=Row.below rq h1)
 refine leaves_cons (f := 112) (args:=#[.pointer (some ⟨w.heap.size,0,none⟩),.pointer (some ⟨w.heap.size+1,0,none⟩)]) (by simp) (by simp [go_sem]) ?_;refine (afcatch _ _ a0 a [] _ _ _ _ _ _ _ (by omega) rp rq (he.below hB)).mono ?_;rintro e u' w'' ⟨rfl,rfl,rp',rq',hb⟩;replace hB:=hB.trans (hb w.heap.size (by omega) (by omega));obtain ⟨tp,dp0,dp1,dp2,dp3,dp4,_gp0,_gp1,_gp2,_gp3,_gp4⟩:=Row.cells5 rp';obtain ⟨tq,dq,_gq⟩:=Row.cells1 rq';simp only [Leaves,settle,List.dropWhile_nil];exact ⟨.tuple #[.agg #[.string ⟨#[]⟩,.string ⟨#[]⟩,.slice none 0 0,.string ⟨#[]⟩,.string ⟨#[]⟩],.int .i64 80],by simp [results,Tryz.results43, go_sem,dp0,dp1,dp2,dp3,dp4,dq],rfl,hB⟩
/-! compute[yardstick/api.Ratio] -/
def arIs (Pr:Rat→Prop) (w:World) (e:Ending) (w':World):Prop:=∃ a,Pr a∧e = .returned (Q a)∧Below w.heap.size w w'
def arOk (Pr:Rat→Prop) (w:World) (e:Ending) (w':World):Prop:=∃ a,Pr a∧e = .returned (.tuple #[Q a,.int .i64 0])∧Below w.heap.size w w'
theorem aridle (bp bq:Nat) (w:World) :
  CallsD Tryz.prog 127 #[.pointer (some ⟨bp,0,none⟩),.pointer (some ⟨bq,0,none⟩)] .returning w fun e u' w'=>e = .returned (.tuple #[])∧u' = .returning∧w'=w:=by
 have hta:=assert_nil;refine callsD_of_wpS Tryz.func127 rfl fun c₀ cs hu => ?_
 have e:(#[.pointer (some ⟨bp,0,none⟩),.pointer (some ⟨bq,0,none⟩)] ++ Array.replicate (Tryz.f127.ntmps - (#[.pointer (some ⟨bp,0,none⟩),.pointer (some ⟨bq,0,none⟩)]:Array Value).size) undef:Array Value)=#[.pointer (some ⟨bp,0,none⟩),.pointer (some ⟨bq,0,none⟩),undef,undef,undef,undef,undef,undef,undef,undef,undef,undef,undef,undef,undef,undef,undef]:=by kernel_rfl
 rw [e];apply wpS_seq;apply wpS_region;simp [wpOpsS,go_sem,recoverD,hu,Exit.thenS,hta];refine wpS_of_wp ?_;go_hide hQ;go_wp2;subst hQ
 cases c₀
 simp_all [bodyPostS,results,Tryz.results127]
theorem arcompute_ok (F:FuncId) (caps:Array Value) (s n:Nat) (Pr:Rat→Prop) (w:World) (eg:∀ args w,(callFunc F args).run Tryz.prog w = .ok (.enter F args) w)
  (hv:∀ W,Below w.heap.size w W→Calls Tryz.prog 114 #[.slice (some ⟨s,0,none⟩) n n,.func (.func 128) #[] #[]] W (BoolOk false W))
  (h:∀ W,Below w.heap.size w W→Calls Tryz.prog F caps W (arIs Pr W)) :
  Calls Tryz.prog 76 #[.func (.func F) #[] caps,.slice (some ⟨s,0,none⟩) n n] w (arOk Pr w):=by
 have hmf:∀ (fn:Fn) (first cap:Array Value) (w:World),(Instr.makeFunc fn first cap).run Tryz.prog w = .ok (.func fn first cap) w:=fun _ _ _ _=>rfl
 have hB:Below w.heap.size w w:=Below.refl _ _;go_enter_defers Tryz.func76, Tryz.ntmps76;go_wp2_with fail;refine world_cut (fun X=>Below w.heap.size w X∧Row X w.heap.size oR0∧Row X (w.heap.size+1) (.cells #[.int .i64 0] 36)) ⟨(by repeat (first | (with_reducible exact hB) | (with_reducible refine Below.drew ?_) | (with_reducible refine Below.alloc ?_ (by first | omega | (simp;done) | (simp;omega)) _) | (with_reducible refine Below.setCell ?_ (by first | omega | (simp;done) | (simp;omega)) _))),(by repeat (first | (with_reducible exact row_new' (by first | omega | (simp;done) | (simp;omega))) | (with_reducible refine Row.drew ?_) | (with_reducible refine Row.alloc ?_ _))),(by repeat (first | (with_reducible exact row_new' (by first | omega | (simp;done) | (simp;omega))) | (with_reducible refine Row.drew ?_) | (with_reducible refine Row.alloc ?_ _)))⟩ ?_;clear hB;rintro W1 ⟨hB,rp,rq⟩;refine (hv _ hB).mono ?_;rintro e W2 ⟨rfl,h1⟩;replace hB:=hB.trans (h1.mono hB.size);replace rp:=Row.below rp h1;replace rq:=Row.below rq h1;clear h1;go_wp2_with fail;refine (acheck_true _).mono ?_;rintro e W3 ⟨rfl,h1⟩;replace hB:=hB.trans (h1.mono hB.size);replace rp:=Row.below rp h1;replace rq:=Row.below rq h1;clear h1;have h':=h _ hB;clear h hv;go_wp2_with (go_at_fn F;refine h'.mono ?_;rintro e W4 ⟨a,pa,rfl,h1⟩;replace hB:=hB.trans (h1.mono hB.size);replace rp:=Row.below rp h1;replace rq:=Row.below rq h1;have sp:=Row.cells2 rp;obtain ⟨sq,cq,fq⟩:=Row.cells1 rq;unfold Q)
 refine leaves_cons (f := 127) (args:=#[.pointer (some ⟨w.heap.size,0,none⟩),.pointer (some ⟨w.heap.size+1,0,none⟩)]) (by simp) (by simp [go_sem]) ?_;refine (aridle _ _ _).mono ?_;rintro e u' w'' ⟨rfl,rfl,hw⟩;have sB:=hB.size;obtain ⟨hB',rp',rq'⟩:Below w.heap.size w w''∧Row w'' w.heap.size (oR a)∧Row w'' (w.heap.size+1) (.cells #[.int .i64 0] 36):=by
  rw [hw];exact ⟨(by repeat (first | (with_reducible exact hB) | (with_reducible refine Below.drew ?_) | (with_reducible refine Below.alloc ?_ (by first | omega | (simp;done) | (simp;omega)) _) | (with_reducible refine Below.setCell ?_ (by first | omega | (simp;done) | (simp;omega)) _))),(by repeat (first | (with_reducible exact rp) | (with_reducible exact row_new' (by first | omega | (simp;done) | (simp;omega))) | (with_reducible refine Row.drew ?_) | (with_reducible refine Row.alloc ?_ _) | (with_reducible apply Row.set5) | (with_reducible apply Row.set4) | (with_reducible apply Row.set4a) | (with_reducible apply Row.set4b) | (with_reducible apply Row.set2) | (with_reducible apply Row.set1) | (with_reducible refine Row.set_other ?_ _ (by first | omega | (simp;done) | (simp;omega))))),(by repeat (first | (with_reducible exact rq) | (with_reducible exact row_new' (by first | omega | (simp;done) | (simp;omega))) | (with_reducible refine Row.drew ?_) | (with_reducible refine Row.alloc ?_ _) | (with_reducible apply Row.set5) | (with_reducible apply Row.set4) | (with_reducible apply Row.set4a) | (with_reducible apply Row.set4b) | (with_reducible apply Row.set2) | (with_reducible apply Row.set1) | (with_reducible refine Row.set_other ?_ _ (by first | omega | (simp;done) | (simp;omega)))))⟩
 clear hw;obtain ⟨tp,dp0,dp1,_gp0,_gp1⟩:=Row.cells2 rp';obtain ⟨tq,dq,_gq⟩:=Row.cells1 rq';simp only [Leaves,settle];exact ⟨.tuple #[.agg #[.string (S a.num),.string (S (a.den:Int))],.int .i64 0],by simp [results,Tryz.results76, go_sem,dp0,dp1,dq],a,pa,rfl,hB'⟩
end Go.Proofs.YtdikaoahgleffaaGreatDoor
