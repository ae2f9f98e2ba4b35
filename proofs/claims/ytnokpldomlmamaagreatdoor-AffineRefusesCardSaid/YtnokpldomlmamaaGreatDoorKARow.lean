/-
 A loop, round by round: for loops whose number of rounds is known. Chains of tactics behind the names of theorems whose last argument is automatic: the chain runs where the name stands. Rows, what lies below, and the obligations of a region whose values are known. Histories in memory: what a slice of points holds; copies within rows of elements of more than one cell. Forms in memory: what a slice of terms (or of sources) holds.
-/
import Derived.Laws.CopyRow
import Derived.Laws.IdiomCopy
import Derived.Maps.AppendAt
import Derived.OneCell
import Derived.Test.YtnokpldomlmamaaGreatDoorKDPlain2
import Derived.Test.YtnokpldomlmamaaGreatDoorKECompute
import Derived.Test.YtnokpldomlmamaaGreatDoorKQuiet
set_option linter.unusedSimpArgs false
set_option linter.unusedVariables false
namespace Go.Proofs.YtnokpldomlmamaaGreatDoor
open Go Go.RowKit Go.Lib Go.Shelf
/-- The loop's body stands ahead, the loop behind it. -/
def loopWp (P:Program) (c:Code) (Q:Exit→Act→World→Prop) (a:Act) (w:World):Prop :=
 ∀ (b:Frame) (k:List Item) (cs:List Frame),∃ e a' w',Q e a' w'∧Arrives P (lone (b.at a (.code c :: .inLoop c :: k)) cs w) b k cs e a' w'
theorem wp_loop_unroll {P:Program} {c:Code} {Q:Exit→Act→World→Prop} {a:Act} {w:World} (h:loopWp P c Q a w):(Code.loop c).wp P Q a w :=
 fun b k cs=>let ⟨e,a',w',q,r⟩:=h b k cs;⟨e,a',w',q,.of_steps (.one step_loop) r⟩
theorem loopWp_step {P:Program} {c:Code} {Q:Exit→Act→World→Prop} {a:Act} {w:World} (h:c.wp P (Exit.then (loopWp P c Q) Q) a w):loopWp P c Q a w:=by
 intro b k cs
 obtain ⟨e,a₁,w₁,hq,harr⟩:=h b (.inLoop c :: k) cs
 cases e with
 | normal =>
  obtain ⟨e₂,a₂,w₂,hq₂,harr₂⟩:=hq b k cs
  exact ⟨e₂,a₂,w₂,hq₂,.of_steps (Steps.trans harr (.one step_inLoop)) harr₂⟩
 | exit id=>exact ⟨_,a₁,w₁,hq,.pass (x := .inLoop c) rfl (fun _ _ => .inl (by simp)) harr⟩
 | goto l=>exact ⟨_,a₁,w₁,hq,.pass (x := .inLoop c) rfl (fun _ _ => .inl (by simp)) harr⟩
 | ret=>exact ⟨_,a₁,w₁,hq,.pass (x := .inLoop c) rfl (fun _ _ => .inl (by simp)) harr⟩
 | panic ch=>exact ⟨_,a₁,w₁,hq,.pass (x := .inLoop c) rfl (fun _ _ => .inl (by simp)) harr⟩
 | outgrown=>exact ⟨_,a₁,w₁,hq,.pass (x := .inLoop c) rfl (fun _ _ => .inl (by simp)) harr⟩
end Go.Proofs.YtnokpldomlmamaaGreatDoor
namespace Go.Proofs.YtnokpldomlmamaaGreatDoor
open Go Go.RowKit Go.Lib Go.Shelf
theorem Row.cell_lit {W:World} {b:Nat} {vs:Array Value} {t:TypeId} (h:Row W b (.cells vs t)) (i:Nat) {v:Value} (hv:vs[i]? = some v):W.cell? ⟨b,i,none⟩=some v:=by
 have h2:W.heap[b]? = some (.cells vs t):=h.2
 simp [World.cell?,h2,hv]
theorem Row.cell_at {W:World} {b:Nat} {vs:Array Value} {t:TypeId} (h:Row W b (.cells vs t)) (i:Nat) {v:Value} (hv:vs[i]? = some v):W.cell? ⟨b,i,none⟩=some v:=by
 have h2:W.heap[b]? = some (.cells vs t):=h.2
 simp [World.cell?,h2,hv]
theorem Row.set2a {W:World} {b:Nat} {v0 v1 u0:Value} {t:TypeId} (h:Row W b (.cells #[v0,v1] t)):Row (W.setCell ⟨b,0,none⟩ u0) b (.cells #[u0,v1] t):=h.set_same rfl
theorem Row.set2b {W:World} {b:Nat} {v0 v1 u1:Value} {t:TypeId} (h:Row W b (.cells #[v0,v1] t)):Row (W.setCell ⟨b,1,none⟩ u1) b (.cells #[v0,u1] t):=h.set_same rfl
/-- A row, from world to world. -/
theorem RW {P:Prop} (h:P:=by repeat (first | (with_reducible assumption) | (with_reducible exact row_new' (by first | omega | (simp;done) | (simp;omega))) | (with_reducible refine Row.drew ?_) | (with_reducible refine Row.drewN ?_ _) | (with_reducible refine Row.alloc ?_ _) | (with_reducible apply Row.set4) | (with_reducible apply Row.set4a) | (with_reducible apply Row.set4b) | (with_reducible apply Row.set2) | (with_reducible apply Row.set1) | (with_reducible apply Row.set2a) | (with_reducible apply Row.set2b) | (with_reducible refine Row.set_other ?_ _ (by first | omega | (simp;done) | (simp;omega))))):P:=h
/-- What lies below. -/
theorem BW {P:Prop} (h:P:=by repeat (first | (with_reducible assumption) | (with_reducible exact Below.refl _ _) | (with_reducible refine Below.drew ?_) | (with_reducible refine below_drewN ?_ _) | (with_reducible refine Below.alloc ?_ (by first | omega | (simp;done) | (simp;omega)) _) | (with_reducible refine Below.setCell ?_ (by first | omega | (simp;done) | (simp;omega)) _))):P:=h
/-- An operation that reads no memory. -/
theorem qv0 {p:Prop} (h:p:=by intro ρ X qX qc qg qf qt qd;simp [depsAre,Region.binds] at qd;simp [Region.wanted,yieldedBy,quietly,execOp,go_sem,foreign,qc,qd,qt,Below.refl]):p:=h
/-- The same, with a fact. -/
theorem qvf {p q:Prop} (y:q) (h:q→p:=by intro y ρ X qX qc qg qf qt qd;simp [depsAre,Region.binds] at qd;simp [Region.wanted,yieldedBy,quietly,execOp,go_sem,foreign,qc,qd,qt,Below.refl,y]):p:=h y
/-- A load: what the block's cells hold. -/
theorem qv1 {p:Prop} {q:World→Prop} {w:World} (y:∀ X,Below w.heap.size w X→q X)
  (h:(∀ X,Below w.heap.size w X→q X)→p:=by intro y ρ X qX qc qg qf qt qd;simp [depsAre,Region.binds] at qd;have y':=y X qX;clear y;simp [Region.wanted,yieldedBy,quietly,execOp,go_sem,foreign,qc,qd,qt,Below.refl,y']):p:=h y
/-- A call. -/
theorem qv2 {p:Prop} {P:Program} {F:FuncId} {args:Array Value} {R:World→Ending→World→Prop} {w:World} (y:∀ X,Below w.heap.size w X→Calls P F args X (R X))
  (h:(∀ X,Below w.heap.size w X→Calls P F args X (R X))→p:=by intro y ρ X qX qc qg qf qt qd;simp [depsAre,Region.binds] at qd;simp [Region.wanted,yieldedBy,quietly,execOp,go_sem,foreign,qc,qd,qt,qf];refine ⟨Below.refl _ _,(y X qX).mono ?_⟩;rintro e Y ⟨rfl,h1⟩;exact ⟨_,rfl,rfl,h1⟩):p:=h y
end Go.Proofs.YtnokpldomlmamaaGreatDoor
namespace Go.Proofs.YtnokpldomlmamaaGreatDoor
open Go Go.RowKit Go.Lib Go.Shelf
def pC (p:Pt):List Value:=[.int .i64 (p.t:Int),.string (S p.iv.lo.num),.string (S (p.iv.lo.den:Int)),.string (S p.iv.hi.num),.string (S (p.iv.hi.den:Int))]
def pCells (l:List Pt):List Value:=l.flatMap pC
theorem own_keep {w:World} {base:Nat} {e:TypeId} {size:Nat} {v:Value} {n:Nat} {xs:List Value} (h:w.ownsRow base e size v n xs) {b:Nat} (hb:b<base) (i:Nat) (u:Value):(w.setCell ⟨b,i,none⟩ u).ownsRow base e size v n xs :=
 ownsRow_setCell_other h (a:=⟨b,i,none⟩) (fun he=>by have:=h.lt b he;omega) u
theorem own_dr {w:World} {base:Nat} {e:TypeId} {size:Nat} {v:Value} {n:Nat} {xs:List Value} (h:w.ownsRow base e size v n xs):w.drew.ownsRow base e size v n xs:=h
theorem own_drN {w:World} {base:Nat} {e:TypeId} {size:Nat} {v:Value} {n:Nat} {xs:List Value} (h:w.ownsRow base e size v n xs) (k:Nat):(w.drewN k).ownsRow base e size v n xs:=h
/-- A row of its own, from world to world. -/
theorem OW {P:Prop} (h:P:=by repeat (first | (with_reducible assumption) | (with_reducible refine own_dr ?_) | (with_reducible refine own_drN ?_ _) | (with_reducible refine World.ownsRow.alloc ?_ _) | (with_reducible refine own_keep ?_ (by first | omega | (simp;done) | (simp;omega)) _ _))):P:=h
theorem Row.set3 {W:World} {b:Nat} {v0 v1 v2 u0 u1 u2:Value} {t:TypeId} (h:Row W b (.cells #[v0,v1,v2] t)) :
  Row (((W.setCell ⟨b,0,none⟩ u0).setCell ⟨b,1,none⟩ u1).setCell ⟨b,2,none⟩ u2) b (.cells #[u0,u1,u2] t):=((h.set_same rfl).set_same rfl).set_same rfl
theorem Row.set5 {W:World} {b:Nat} {v0 v1 v2 v3 v4 u0 u1 u2 u3 u4:Value} {t:TypeId} (h:Row W b (.cells #[v0,v1,v2,v3,v4] t)) :
  Row (((((W.setCell ⟨b,0,none⟩ u0).setCell ⟨b,1,none⟩ u1).setCell ⟨b,2,none⟩ u2).setCell ⟨b,3,none⟩ u3).setCell ⟨b,4,none⟩ u4) b (.cells #[u0,u1,u2,u3,u4] t):=((((h.set_same rfl).set_same rfl).set_same rfl).set_same rfl).set_same rfl
/-- A row, from world to world; of three and of five cells too. -/
theorem RWh {P:Prop} (h:P:=by repeat (first | (with_reducible assumption) | (with_reducible exact row_new' (by first | omega | (simp;done) | (simp;omega))) | (with_reducible refine Row.drew ?_) | (with_reducible refine Row.drewN ?_ _) | (with_reducible refine Row.alloc ?_ _) | (with_reducible apply Row.set5) | (with_reducible apply Row.set4) | (with_reducible apply Row.set3) | (with_reducible apply Row.set4a) | (with_reducible apply Row.set4b) | (with_reducible apply Row.set2) | (with_reducible apply Row.set1) | (with_reducible apply Row.set2a) | (with_reducible apply Row.set2b) | (with_reducible refine Row.set_other ?_ _ (by first | omega | (simp;done) | (simp;omega))))):P:=h
theorem pC_length (p:Pt):(pC p).length=5:=rfl
theorem pCells_cons (p:Pt) (l:List Pt):pCells (p :: l)=pC p ++ pCells l:=rfl
theorem pCells_length (l:List Pt):(pCells l).length=l.length * 5:=by
 induction l with
 | nil=>rfl
 | cons p l ih=>rw [pCells_cons,List.length_append,ih,pC_length,List.length_cons];omega
theorem pCells_app (l m:List Pt):pCells (l ++ m)=pCells l ++ pCells m:=by unfold pCells;simp
theorem pCells_take:∀ (l:List Pt) (k:Nat),pCells (l.take k)=(pCells l).take (k * 5)
 | [],k=>by simp [pCells]
 | p :: l,0=>by simp [pCells]
 | p :: l,k+1=>by
  rw [List.take_succ_cons,pCells_cons,pCells_cons,pCells_take l k,show (k+1) * 5=(pC p).length+k * 5 by rw [pC_length];omega,List.take_length_add_append]
theorem pCells_get {l:List Pt} {i:Nat} (h:i<l.length) (j:Nat) (hj:j<5):(pCells l)[i * 5+j]? = (pC (ptD l i))[j]? := by
 have e:l=l.take i ++ ptD l i :: l.drop (i+1):=by
  have:ptD l i=l[i]:=by unfold ptD;rw [List.getD_eq_getElem?_getD,List.getElem?_eq_getElem h];rfl
  rw [this]
  exact (List.take_append_drop i l).symm.trans (by rw [List.drop_eq_getElem_cons h])
 have e2:pCells l=pCells (l.take i) ++ (pC (ptD l i) ++ pCells (l.drop (i+1))):=by
  rw [← pCells_cons,← pCells_app,← e]
 have hl:(pCells (l.take i)).length=i * 5:=by rw [pCells_length,List.length_take,Nat.min_eq_left (by omega)]
 rw [e2,List.getElem?_append_right (by omega),hl,Nat.add_sub_cancel_left,List.getElem?_append_left (by rw [pC_length];exact hj)]
theorem Row.cell_lit' {W:World} {b:Nat} {vs:Array Value} {t:TypeId} (h:Row W b (.cells vs t)) (i:Nat) {v:Value} (hv:vs[i]? = some v):W.cell? ⟨b,i,none⟩=some v:=by
 have h2:W.heap[b]? = some (.cells vs t):=h.2
 simp [World.cell?,h2,hv]
/-- A slice value holds these points. -/
def PRow (W:World) (s:Value) (l:List Pt):Prop:=W.ownsRow 0 32 5 s l.length (pCells l)
/-- A history, as a value. -/
def HV (h:Hist) (s:Value):Value := .agg #[.string (S h.rate.num),.string (S (h.rate.den:Int)),s]
theorem PRow.nil (W:World):PRow W (.slice none 0 0) []:=⟨rfl,.inl ⟨rfl,rfl⟩⟩
/-- What of a row the walks want. -/
def PAt (W:World) (p:Option Addr) (l:List Pt):Prop:=(l=[]∧(p=none∨∃ g,p=some ⟨g,0,none⟩))∨∃ g cur,p=some ⟨g,0,none⟩∧Row W g (.cells cur 32)∧cur.toList.take (l.length * 5)=pCells l
theorem PRow.below {W W':World} {s:Value} {l:List Pt} (h:PRow W s l) (hB:Below W.heap.size W W'):PRow W' s l :=
 ⟨h.1,h.2.elim .inl fun ⟨g,cap,cur,e,h0,hg,r⟩ => .inr ⟨g,cap,cur,e,h0,(hB.block g (Array.getElem?_eq_some_iff.1 hg).1).trans hg,r⟩⟩
theorem PAt.below {W W':World} {p:Option Addr} {l:List Pt} (h:PAt W p l) (hB:Below W.heap.size W W'):PAt W' p l :=
 h.elim .inl fun ⟨g,cur,e,hr,hx⟩ => .inr ⟨g,cur,e,Row.below hr hB,hx⟩
/-- One point's cells. -/
theorem PAt.cells {W:World} {p:Option Addr} {l:List Pt} (h:PAt W p l) {i:Nat} (hi:i<l.length):∃ g,p=some ⟨g,0,none⟩∧g<W.heap.size
  ∧ W.cell? ⟨g,i * 5,none⟩=some (.int .i64 ((ptD l i).t:Int))∧W.cell? ⟨g,i * 5+1,none⟩=some (.string (S (ptD l i).iv.lo.num))∧W.cell? ⟨g,i * 5+2,none⟩=some (.string (S ((ptD l i).iv.lo.den:Int)))
  ∧ W.cell? ⟨g,i * 5+3,none⟩=some (.string (S (ptD l i).iv.hi.num))∧W.cell? ⟨g,i * 5+4,none⟩=some (.string (S ((ptD l i).iv.hi.den:Int))):=by
 rcases h with ⟨rfl,_⟩ | ⟨g,cur,rfl,hr,hx⟩
 ·simp at hi
 ·have key:∀ j,j<5→cur[i * 5+j]? = (pC (ptD l i))[j]? := fun j hj=>by
   rw [← pCells_get hi j hj,← hx,List.getElem?_take,if_pos (by omega),Array.getElem?_toList]
  refine ⟨g,rfl,hr.1,?_,?_,?_,?_,?_⟩
  ·exact Row.cell_lit hr _ (key 0 (by omega))
  ·exact Row.cell_lit hr _ (key 1 (by omega))
  ·exact Row.cell_lit hr _ (key 2 (by omega))
  ·exact Row.cell_lit hr _ (key 3 (by omega))
  ·exact Row.cell_lit hr _ (key 4 (by omega))
end Go.Proofs.YtnokpldomlmamaaGreatDoor
namespace Go.Proofs.YtnokpldomlmamaaGreatDoor
open Go Go.RowKit Go.Lib Go.Shelf
/-- A term, or a source, of any number and of any strings. -/
structure RT where
 s:Int
 a:ByteArray
 b:ByteArray
def uD (l:List RT) (i:Nat):RT:=l.getD i ⟨0,⟨#[]⟩,⟨#[]⟩⟩
theorem uD_get {l:List RT} {i:Nat} (h:i<l.length):uD l i=l[i]:=by unfold uD;rw [List.getD_eq_getElem?_getD,List.getElem?_eq_getElem h];rfl
theorem drop_uD {l:List RT} {i:Nat} (h:i<l.length):l.drop i=uD l i :: l.drop (i+1):=by
 rw [uD_get h];exact List.drop_eq_getElem_cons h
def uC (t:RT):List Value:=[.int .i64 t.s,.string t.a,.string t.b]
def uCells (l:List RT):List Value:=l.flatMap uC
theorem uC_length (p:RT):(uC p).length=3:=rfl
theorem uCells_cons (p:RT) (l:List RT):uCells (p :: l)=uC p ++ uCells l:=rfl
theorem uCells_length (l:List RT):(uCells l).length=l.length * 3:=by
 induction l with
 | nil=>rfl
 | cons p l ih=>rw [uCells_cons,List.length_append,ih,uC_length,List.length_cons];omega
theorem uCells_app (l m:List RT):uCells (l ++ m)=uCells l ++ uCells m:=by unfold uCells;simp
theorem uCells_take:∀ (l:List RT) (k:Nat),uCells (l.take k)=(uCells l).take (k * 3)
 | [],k=>by simp [uCells]
 | p :: l,0=>by simp [uCells]
 | p :: l,k+1=>by
  rw [List.take_succ_cons,uCells_cons,uCells_cons,uCells_take l k,show (k+1) * 3=(uC p).length+k * 3 by rw [uC_length];omega,List.take_length_add_append]
theorem uCells_get {l:List RT} {i:Nat} (h:i<l.length) (j:Nat) (hj:j<3):(uCells l)[i * 3+j]? = (uC (uD l i))[j]? := by
 have e:l=l.take i ++ uD l i :: l.drop (i+1):=(List.take_append_drop i l).symm.trans (by rw [drop_uD h])
 have e2:uCells l=uCells (l.take i) ++ (uC (uD l i) ++ uCells (l.drop (i+1))):=by
  rw [← uCells_cons,← uCells_app,← e]
 have hl:(uCells (l.take i)).length=i * 3:=by rw [uCells_length,List.length_take,Nat.min_eq_left (by omega)]
 rw [e2,List.getElem?_append_right (by omega),hl,Nat.add_sub_cancel_left,List.getElem?_append_left (by rw [uC_length];exact hj)]
theorem uCells_one (l:List RT):∀ v ∈ uCells l,v.oneCell'=true:=by
 intro v hv
 obtain ⟨p,_,hp⟩:=List.mem_flatMap.1 hv
 simp only [uC,List.mem_cons,List.not_mem_nil,or_false] at hp
 rcases hp with rfl | rfl | rfl <;> rfl
/-- A slice of terms (of the type T) begins here. -/
def UAt (T:TypeId) (W:World) (p:Option Addr) (l:List RT):Prop:=(l=[]∧(p=none∨∃ g,p=some ⟨g,0,none⟩))∨∃ g cur,p=some ⟨g,0,none⟩∧Row W g (.cells cur T)∧cur.toList.take (l.length * 3)=uCells l
theorem UAt.below {T:TypeId} {W W':World} {p:Option Addr} {l:List RT} (h:UAt T W p l) (hB:Below W.heap.size W W'):UAt T W' p l :=
 h.elim .inl fun ⟨g,cur,e,hr,hx⟩ => .inr ⟨g,cur,e,Row.below hr hB,hx⟩
theorem UAt.belowN {n:Nat} {T:TypeId} {W W':World} {g:Nat} {l:List RT} (h:UAt T W (some ⟨g,0,none⟩) l) (hg:g<n) (hB:Below n W W'):UAt T W' (some ⟨g,0,none⟩) l:=by
 rcases h with ⟨rfl,h⟩ | ⟨g',cur,e,hr,hx⟩
 ·exact .inl ⟨rfl,.inr ⟨g,rfl⟩⟩
 ·simp only [Option.some.injEq,Addr.mk.injEq,and_true] at e
  subst e
  exact .inr ⟨_,cur,rfl,⟨Nat.lt_of_lt_of_le hr.1 hB.size,(hB.block _ hg).trans hr.2⟩,hx⟩
theorem UAt.nil (T:TypeId) (W:World):UAt T W none [] := .inl ⟨rfl,.inl rfl⟩
/-- One term's cells. -/
theorem UAt.at {T:TypeId} {W:World} {p:Option Addr} {l:List RT} (h:UAt T W p l) {i:Nat} (hi:i<l.length):∃ g cur,p=some ⟨g,0,none⟩∧Row W g (.cells cur T)
  ∧ cur[i * 3]? = some (.int .i64 (uD l i).s)∧cur[i * 3+1]? = some (.string (uD l i).a)∧cur[i * 3+2]? = some (.string (uD l i).b):=by
 rcases h with ⟨rfl,_⟩ | ⟨g,cur,rfl,hr,hx⟩
 ·simp at hi
 ·have key:∀ j,j<3→cur[i * 3+j]? = (uC (uD l i))[j]? := fun j hj=>by
   rw [← uCells_get hi j hj,← hx,List.getElem?_take,if_pos (by omega),Array.getElem?_toList]
  exact ⟨g,cur,rfl,hr,key 0 (by omega),key 1 (by omega),key 2 (by omega)⟩
theorem UAt.take {T:TypeId} {W:World} {p:Option Addr} {l:List RT} (h:UAt T W p l) (k:Nat):UAt T W p (l.take k):=by
 rcases h with ⟨rfl,h⟩ | ⟨g,cur,rfl,hr,hx⟩
 ·exact .inl ⟨by simp,h⟩
 ·refine .inr ⟨g,cur,rfl,hr,?_⟩
  rw [uCells_take,← hx,List.take_take,List.length_take]
  congr 1
  omega
/-- An owned row of terms. -/
theorem own_uat {W:World} {n k:Nat} {T:TypeId} {p:Option Addr} {m c:Nat} {l:List RT} (h:W.ownsRow n T 3 (.slice p m c) k (uCells l)) (hk:l.length=k):UAt T W p l:=by
 obtain ⟨_,⟨he,hn⟩ | ⟨g,cap,cur,he,_,hg,hc,hm,_,hx⟩⟩:=h
 ·simp only [Value.slice.injEq] at he
  obtain ⟨rfl,_,_⟩:=he
  exact .inl ⟨List.length_eq_zero_iff.1 (by omega),.inl rfl⟩
 ·simp only [Value.slice.injEq] at he
  obtain ⟨rfl,_,_⟩:=he
  exact .inr ⟨g,cur,rfl,⟨(Array.getElem?_eq_some_iff.1 hg).1,hg⟩,by rw [hk];exact hx⟩
theorem uat_set {T U:TypeId} {W:World} {p:Option Addr} {l:List RT} {b:Nat} {vs:Array Value} (h:UAt T W p l) (r:Row W b (.cells vs U)) (hne:U≠T) (i:Nat) (u:Value):UAt T (W.setCell ⟨b,i,none⟩ u) p l:=by
 rcases h with h | ⟨g,cur,rfl,hr,hx⟩
 ·exact .inl h
 ·refine .inr ⟨g,cur,rfl,hr.set_other u (fun e => ?_),hx⟩
  subst e
  have:=hr.2.symm.trans r.2
  simp only [Option.some.injEq,Obj.cells.injEq] at this
  exact hne this.2.1.symm
/-! Terms whose strings spell fractions. -/
def Trm.raw (t:Trm):RT:=⟨(t.s:Int),S t.c.num,S (t.c.den:Int)⟩
def raws (l:List Trm):List RT:=l.map Trm.raw
theorem raws_length (l:List Trm):(raws l).length=l.length:=by simp [raws]
theorem raws_app (l m:List Trm):raws (l ++ m)=raws l ++ raws m:=by simp [raws]
theorem raws_take (l:List Trm) (k:Nat):raws (l.take k)=(raws l).take k:=by simp [raws]
theorem raws_at {l:List Trm} {i:Nat} (h:i<l.length):uD (raws l) i=(trD l i).raw:=by
 rw [uD_get (by rw [raws_length];exact h),trD_get h];simp [raws]
abbrev TAt (T:TypeId) (W:World) (p:Option Addr) (l:List Trm):Prop:=UAt T W p (raws l)
theorem TAt.below {T:TypeId} {W W':World} {p:Option Addr} {l:List Trm} (h:TAt T W p l) (hB:Below W.heap.size W W'):TAt T W' p l:=UAt.below h hB
theorem TAt.nil (T:TypeId) (W:World):TAt T W none []:=UAt.nil T W
theorem TAt.at {T:TypeId} {W:World} {p:Option Addr} {l:List Trm} (h:TAt T W p l) {i:Nat} (hi:i<l.length):∃ g cur,p=some ⟨g,0,none⟩∧Row W g (.cells cur T)
  ∧ cur[i * 3]? = some (.int .i64 ((trD l i).s:Int))∧cur[i * 3+1]? = some (.string (S (trD l i).c.num))∧cur[i * 3+2]? = some (.string (S ((trD l i).c.den:Int))):=by
 have:=UAt.at h (i:=i) (by rw [raws_length];exact hi)
 rw [raws_at hi] at this
 exact this
theorem TAt.take {T:TypeId} {W:World} {p:Option Addr} {l:List Trm} (h:TAt T W p l) (k:Nat):TAt T W p (l.take k):=by
 unfold TAt;rw [raws_take];exact UAt.take h k
theorem tat_set {T U:TypeId} {W:World} {p:Option Addr} {l:List Trm} {b:Nat} {vs:Array Value} (h:TAt T W p l) (r:Row W b (.cells vs U)) (hne:U≠T) (i:Nat) (u:Value):TAt T (W.setCell ⟨b,i,none⟩ u) p l:=uat_set h r hne i u
theorem Row.set5c {W:World} {b:Nat} {v0 v1 v2 v3 v4 u2:Value} {t:TypeId} (h:Row W b (.cells #[v0,v1,v2,v3,v4] t)):Row (W.setCell ⟨b,2,none⟩ u2) b (.cells #[v0,v1,u2,v3,v4] t):=h.set_same rfl
theorem Row.set5ab {W:World} {b:Nat} {v0 v1 v2 v3 v4 u0 u1:Value} {t:TypeId} (h:Row W b (.cells #[v0,v1,v2,v3,v4] t)):Row ((W.setCell ⟨b,0,none⟩ u0).setCell ⟨b,1,none⟩ u1) b (.cells #[u0,u1,v2,v3,v4] t):=(h.set_same rfl).set_same rfl
theorem Row.set5yz {W:World} {b:Nat} {v0 v1 v2 v3 v4 u3 u4:Value} {t:TypeId} (h:Row W b (.cells #[v0,v1,v2,v3,v4] t)):Row ((W.setCell ⟨b,3,none⟩ u3).setCell ⟨b,4,none⟩ u4) b (.cells #[v0,v1,v2,u3,u4] t):=(h.set_same rfl).set_same rfl
/-- A row, from world to world; of five cells too, part by part. -/
theorem RW8 {P:Prop} (h:P:=by repeat (first | (with_reducible assumption) | (with_reducible exact row_new' (by first | omega | (simp;done) | (simp;omega))) | (with_reducible refine Row.drew ?_) | (with_reducible refine Row.drewN ?_ _) | (with_reducible refine Row.alloc ?_ _) | (with_reducible apply Row.set5) | (with_reducible apply Row.set5c) | (with_reducible apply Row.set5yz) | (with_reducible apply Row.set5ab) | (with_reducible apply Row.set4) | (with_reducible apply Row.set3) | (with_reducible apply Row.set4a) | (with_reducible apply Row.set4b) | (with_reducible apply Row.set2) | (with_reducible apply Row.set1) | (with_reducible apply Row.set2a) | (with_reducible apply Row.set2b) | (with_reducible refine Row.set_other ?_ _ (by first | omega | (simp;done) | (simp;omega))))):P:=h
theorem UAt.drew {T:TypeId} {W:World} {p:Option Addr} {l:List RT} (h:UAt T W p l):UAt T W.drew p l:=h
theorem UAt.drewN {T:TypeId} {W:World} {p:Option Addr} {l:List RT} (h:UAt T W p l) (k:Nat):UAt T (W.drewN k) p l:=h
theorem UAt.alloc {T:TypeId} {W:World} {p:Option Addr} {l:List RT} (h:UAt T W p l) (o:Obj):UAt T (W.alloc o) p l :=
 h.elim .inl fun ⟨g,cur,e,hr,hx⟩ => .inr ⟨g,cur,e,Row.alloc hr o,hx⟩
theorem uat_set1 {T U:TypeId} {W:World} {p:Option Addr} {l:List RT} {b i:Nat} {vs:Array Value} {u:Value} (h:UAt T W p l) (r:Row W b (.cells vs U)) (hne:U≠T):UAt T (W.setCell ⟨b,i,none⟩ u) p l:=uat_set h r hne i u
theorem Row.set_self {W:World} {b i:Nat} {vs:Array Value} {v:Value} {t:TypeId} (h:Row W b (.cells vs t)):Row (W.setCell ⟨b,i,none⟩ v) b (.cells (vs.setIfInBounds i v) t):=h.set_same rfl
/-- A slice of terms, from world to world, whatever is stored into blocks of other types. -/
theorem TW {P:Prop} (h:P:=by repeat (first | (with_reducible assumption) | (with_reducible refine UAt.drew ?_) | (with_reducible refine UAt.drewN ?_ _) | (with_reducible refine UAt.alloc ?_ _) | (with_reducible apply uat_set1) | (with_reducible exact row_new' (by first | omega | (simp;done) | (simp;omega))) | (with_reducible refine Row.drew ?_) | (with_reducible refine Row.drewN ?_ _) | (with_reducible refine Row.alloc ?_ _) | (with_reducible apply Row.set_self) | (with_reducible refine Row.set_other ?_ _ (by first | omega | (simp;done) | (simp;omega))) | decide)):P:=h
end Go.Proofs.YtnokpldomlmamaaGreatDoor
